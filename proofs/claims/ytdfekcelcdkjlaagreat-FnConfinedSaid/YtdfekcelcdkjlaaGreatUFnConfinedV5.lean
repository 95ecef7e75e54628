/- Words that the printed proofs of this claim use: plain theorems, for every program (out of the print's words: what the law does not reach is left out). -/
import Derived.Test.YtdfekcelcdkjlaaGreatProg
import Derived.Test.YtdfekcelcdkjlaaGreatUFnConfinedV
import Derived.Test.YtdfekcelcdkjlaaGreatUFnConfinedWMore
import Derived.Test.YtdfekcelcdkjlaaGreatUFnConfinedWLast
import Derived.Test.YtdfekcelcdkjlaaGreatUFnConfinedWTab
import Derived.KernelRfl
namespace Go.Proofs.YtdfekcelcdkjlaaGreatV
open Go.RowKit Go.Proofs.YtdfekcelcdkjlaaGreatW.PrintWords Go.Proofs.YtdfekcelcdkjlaaGreatW.PrintLast Go.Proofs.YtdfekcelcdkjlaaGreatW.PrintMore
set_option linter.unusedVariables false
section
variable {b:Nat} {w0 w W w1:World} {g g':Nat} {o o':Obj}
theorem bb (h:Aside0 (w.heap[g]?=some o)) (hb:Below W.heap.size W w1) (e:w.heap[g]?=some o→W.heap[g]?=some o:=by (intro h_;first|(with_reducible exact h_)|((with_reducible repeat (first | refine blk_drewN ?_ _ | refine blk_drew ?_ | refine blk_alloc ?_ _ | refine blk_far ?_ (Aside0.out (by assumption)) _));exact h_))):Aside0 (w1.heap[g]?=some o):=⟨blk_below (e h.out) hb⟩
theorem bk (h:Aside0 (w.heap[g]?=some o)) (e:w.heap[g]?=some o→W.heap[g]?=some o:=by (intro h_;first|(with_reducible exact h_)|((with_reducible repeat (first | refine blk_drewN ?_ _ | refine blk_drew ?_ | refine blk_alloc ?_ _ | refine blk_far ?_ (Aside0.out (by assumption)) _));exact h_))):Aside0 (W.heap[g]?=some o):=⟨e h.out⟩
theorem bt (h:Aside0 (w.heap[g]?=some o)) (e:w.heap[g]?=some o→W.heap[g]?=some o:=by (intro h_;first|(with_reducible exact h_)|((with_reducible repeat (first | refine blk_drewN ?_ _ | refine blk_drew ?_ | refine blk_alloc ?_ _ | refine blk_far ?_ (Aside0.out (by assumption)) _));exact h_))):W.heap[g]?=some o:=e h.out
theorem bs (h:Aside0 (Below w0.heap.size w0 w)) (hb:Below W.heap.size W w1) (e:Below w0.heap.size w0 w→Below w0.heap.size w0 W:=by (intro h_;(repeat (first|(with_reducible first | exact h_ | apply below_alloc | apply pw_below_drewN | apply below_drew1 | refine below_set ?_ (Aside0.out (by assumption))) | exact h_));first | done | fail)):Aside0 (Below w0.heap.size w0 w1):=⟨below_step (e h.out) hb⟩
theorem bh (h:Aside0 (Below w0.heap.size w0 w)) (e:Below w0.heap.size w0 w→Below w0.heap.size w0 W:=by (intro h_;(repeat (first|(with_reducible first | exact h_ | apply below_alloc | apply pw_below_drewN | apply below_drew1 | refine below_set ?_ (Aside0.out (by assumption))) | exact h_));first | done | fail)):Aside0 (Below w0.heap.size w0 W):=⟨e h.out⟩
theorem bo (h:Aside0 (Below w0.heap.size w0 w)) (e:Below w0.heap.size w0 w→Below w0.heap.size w0 W:=by (intro h_;(repeat (first|(with_reducible first | exact h_ | apply below_alloc | apply pw_below_drewN | apply below_drew1 | refine below_set ?_ (Aside0.out (by assumption))) | exact h_));first | done | fail)):Below w0.heap.size w0 W:=e h.out
theorem ge (h:Aside0 (Below w0.heap.size w0 w)) (hg:g=W.heap.size) (e:Below w0.heap.size w0 w→Below w0.heap.size w0 W:=by (intro h_;(repeat (first|(with_reducible first | exact h_ | apply below_alloc | apply pw_below_drewN | apply below_drew1 | refine below_set ?_ (Aside0.out (by assumption))) | exact h_));first | done | fail)):Aside0 (w0.heap.size≤g):=⟨hg ▸ below_size (e h.out)⟩
theorem n1 (h:Aside0 (w.heap[g]?=some o)) (hg:g'=W.heap.size) (e:w.heap[g]?=some o→W.heap[g]?=some o:=by (intro h_;first|(with_reducible exact h_)|((with_reducible repeat (first | refine blk_drewN ?_ _ | refine blk_drew ?_ | refine blk_alloc ?_ _ | refine blk_far ?_ (Aside0.out (by assumption)) _));exact h_))):Aside0 (g≠g'):=⟨hg ▸ Nat.ne_of_lt (blk_lt (e h.out))⟩
theorem n2 (h:Aside0 (w.heap[g]?=some o)) (hg:g'=W.heap.size) (e:w.heap[g]?=some o→W.heap[g]?=some o:=by (intro h_;first|(with_reducible exact h_)|((with_reducible repeat (first | refine blk_drewN ?_ _ | refine blk_drew ?_ | refine blk_alloc ?_ _ | refine blk_far ?_ (Aside0.out (by assumption)) _));exact h_))):Aside0 (g'≠g):=⟨hg ▸ Nat.ne_of_gt (blk_lt (e h.out))⟩
end
section
variable {P:Prop}
theorem rv (h:P:=by first | rfl|(simp;done)|(simp [*];done)):P:=h
theorem re (h:P:=by first | rfl|(simp [errW_none,errW_some] <;> rfl)|(simp [*,errW_none,errW_some] <;> rfl)):P:=h
theorem om (h:P:=by first | omega | exact Nat.le_refl _):Aside0 P:=⟨h⟩
theorem om1 {Q:Prop} (q:Q) (h:Q→P:=by (intro q_;first | omega | exact Nat.le_refl _)):Aside0 P:=⟨h q⟩
end
theorem am {p:Prop} (h:p):Aside0 p:=⟨h⟩
section
variable {α β γ δ:Type} {a a':α} {b b':β} {c c':γ} {d d':δ}
theorem sj (h:some a=some a'):a=a':=Option.some.inj h
theorem sj2 (h:some (a,b)=some (a',b')):a=a'∧b=b':=by injection h with h;injection h with x y;exact ⟨x,y⟩
theorem sj3 (h:some (a,b,c)=some (a',b',c')):a=a'∧b=b'∧c=c':=by injection h with h;injection h with x y;injection y with y z;exact ⟨x,y,z⟩
theorem sj4 (h:some (a,b,c,d)=some (a',b',c',d')):a=a'∧b=b'∧c=c'∧d=d':=by injection h with h;injection h with x y;injection y with y z;injection z with z u;exact ⟨x,y,z,u⟩
end
theorem nft:¬ (false=true):=by decide
section
variable {α β:Type} {x:Option α} {f:α→Option β} {r:β} {a:α}
theorem bnd (h:x.bind f=some r):∃ a,Aside0 (x=some a)∧f a=some r:=by
  obtain ⟨a,h1,h2⟩:=Option.bind_eq_some_iff.mp h;exact ⟨a,⟨h1⟩,h2⟩
theorem yl (h:(some a).bind f=some r):∃ y,Aside0 (y=a)∧f y=some r:=⟨a,⟨rfl⟩,h⟩
end
def ba (n k:Nat):Array Bool:=⟨(List.range n).map k.testBit⟩
theorem bc {w:World} {g:Nat} {cs:Array Value} {t:TypeId} {v:Value} (h:Aside0 (w.heap[g]?=some (.cells cs t (0,0)))) (i:Nat) (e:cs[i]?=some v:=by rfl):w.cell? ⟨g,i,none⟩=some v:=(blk_cell h.out i).trans e
section
variable {P:Program} {md:Region.Mode} {ops:Array Oper} {Q:Exit→Act→World→Prop} {S:World→Prop} {ds:List Nat} {oi:Oper} {v:Value} {fuel:Nat} {l:Array Bool} {a a':Act} {w:World}
theorem pu (i N:Nat) (l':Array Bool) (h:wpAnyLast P md ops Q S ds fuel l' a' w) (hi:ops[i]?=some oi:=by rfl) (hN:oi.dst=some N:=by rfl) (hc:anyB md ops l l' i=true:=by exact any_of HT_.out (by kernel_rfl))
    (hQ:∀ c a w,Q (.panic c) (a.put oi.dst v) w→Q (.panic c) a w:=by exact fun _ _ _ h=>h) (hy:∀ w',(execOp a.eval oi).run P w'=.ok (.value v) w':=by (intro w';go_simp;with_reducible rfl)) (hg:Region.wanted oi (yielded ops a.tmps)=true:=by rfl)
    (ha:a.put (some N) v=a':=by (simp only [Act.put,List.setIfInBounds_toArray,List.set_cons_zero,List.set_cons_succ,i64_w,i32_w];rfl)):wpAnyLast P md ops Q S ds (fuel + 1) l a w:=pure_ l' hi hN hc hQ (Or.inl ⟨hg,hy⟩) ha h
theorem tk (i N:Nat) (l':Array Bool) (hS:S w) (h:wpAnyLast P md ops Q S ds fuel l' a' w) (hi:ops[i]?=some oi:=by rfl) (hN:oi.dst=some N:=by rfl) (hc:takeB md ops ds l l' i=true:=by exact take_ofW HT_.out HW_.out (by kernel_rfl))
    (hQ:∀ c a w,Q (.panic c) (a.put oi.dst v) w→Q (.panic c) a w:=by exact fun _ _ _ h=>h) (hg:Region.wanted oi (yielded ops a.tmps)=true:=by rfl) (hy:∀ w',S w'→(execOp a.eval oi).run P w'=.ok (.value v) w':=by (intro w' hS_;(repeat (have s_:=hS_.1;replace hS_:=hS_.2));go_simp;with_reducible rfl))
    (ha:a.put (some N) v=a':=by (simp only [Act.put,List.setIfInBounds_toArray,List.set_cons_zero,List.set_cons_succ,i64_w,i32_w];rfl)):wpAnyLast P md ops Q S ds (fuel + 1) l a w:=take_ l' hi hN hc hQ (Or.inl ⟨hg,hy⟩) hS ha h
end
theorem gS {P:Program} {ops:Array Oper} {Q:Exit→Act→World→Prop} {w:World} {oi:Oper} {N:Option Tmp} {a:Act} {K:Act→World→Prop} {f:FuncId} {fn:Func} {az:Array Operand} {ts:Array TypeId} (hf:P.funcs[f]?=some fn) (args:Array Value)
    (h : Calls P f args w fun e w' => ∃ v, e = .returned v ∧ K (a.put N v) w') (hname : (fn.name == "runtime.NumGoroutine") = false := by kernel_rfl) (hb : fn.body.isSome = true := by rfl) (hw : Region.wanted oi (yielded ops a.tmps) = true := by rfl) (hN : oi.dst = N := by rfl)
    (hop:oi.op=.call { callee:=.value (.func f),args:=az,argTypes:=ts }:=by rfl) (hargs:az.map a.eval=args:=by ((try simp only [List.map_toArray,List.map_cons,List.map_nil]);first | done | rfl|(simp only [List.length_drop,List.length_take];rfl))):if Region.wanted oi (yielded ops a.tmps)=true then Oper.wp P oi a w K Q else K (a.put N undef) w:=goes_ hf hname hb args hw hN hop hargs h
section
variable {α:Type} {d:Kd α} {e base n:Nat} {ok:Nat→Prop} {v:Value} {xs:List α} {w W:World} {A:Option Addr}
theorem ra (h:d.R e w base ok v xs) (f:d.R e w base ok v xs→d.R e W base ok v xs:=by (intro h_;first|(with_reducible exact h_)|((with_reducible repeat (first | apply Kd.R_alloc | apply Kd.R_drewN | apply Kd.R_drew));exact h_))):Aside0 (d.R e W base ok v xs):=⟨f h⟩
theorem ro (h:d.R e w base ok v xs) (f:d.R e w base ok v xs→d.R e W base ok v xs:=by (intro h_;first|(with_reducible exact h_)|((with_reducible repeat (first | apply Kd.R_alloc | apply Kd.R_drewN | apply Kd.R_drew));exact h_))):d.R e W base ok v xs:=f h
theorem ca (h:d.C w A n xs) (f:d.C w A n xs→d.C W A n xs:=by (intro h_;(repeat (first | exact h_|(with_reducible refine Kd.C_alloc ?_ _)|(with_reducible refine Kd.C_drewN ?_ _)|(with_reducible refine Kd.C_drew ?_)));first | done | fail)):d.C W A n xs:=f h
end
section
variable {w:World} {g:Nat} {t:TypeId} {a b c d e f:Value}
theorem cl3 (h:Aside0 (w.heap[g]?=some (.cells #[a,b,c] t (0,0)))):w.cell? ⟨g,0,none⟩=some a∧w.cell? ⟨g,1,none⟩=some b∧w.cell? ⟨g,2,none⟩=some c∧w.frozen? ⟨g,0,none⟩=false∧w.frozen? ⟨g,1,none⟩=false∧w.frozen? ⟨g,2,none⟩=false :=
  ⟨blk_cell h.out 0,blk_cell h.out 1,blk_cell h.out 2,blk_frozen h.out 0,blk_frozen h.out 1,blk_frozen h.out 2⟩
theorem cl4 (h:Aside0 (w.heap[g]?=some (.cells #[a,b,c,d] t (0,0)))):w.cell? ⟨g,0,none⟩=some a∧w.cell? ⟨g,1,none⟩=some b∧w.cell? ⟨g,2,none⟩=some c∧w.cell? ⟨g,3,none⟩=some d∧w.frozen? ⟨g,0,none⟩=false∧w.frozen? ⟨g,1,none⟩=false∧w.frozen? ⟨g,2,none⟩=false∧w.frozen? ⟨g,3,none⟩=false :=
  ⟨blk_cell h.out 0,blk_cell h.out 1,blk_cell h.out 2,blk_cell h.out 3,blk_frozen h.out 0,blk_frozen h.out 1,blk_frozen h.out 2,blk_frozen h.out 3⟩
theorem cl5 (h:Aside0 (w.heap[g]?=some (.cells #[a,b,c,d,e] t (0,0)))):w.cell? ⟨g,0,none⟩=some a∧w.cell? ⟨g,1,none⟩=some b∧w.cell? ⟨g,2,none⟩=some c∧w.cell? ⟨g,3,none⟩=some d∧w.cell? ⟨g,4,none⟩=some e∧w.frozen? ⟨g,0,none⟩=false∧w.frozen? ⟨g,1,none⟩=false∧w.frozen? ⟨g,2,none⟩=false∧w.frozen? ⟨g,3,none⟩=false∧w.frozen? ⟨g,4,none⟩=false :=
  ⟨blk_cell h.out 0,blk_cell h.out 1,blk_cell h.out 2,blk_cell h.out 3,blk_cell h.out 4,blk_frozen h.out 0,blk_frozen h.out 1,blk_frozen h.out 2,blk_frozen h.out 3,blk_frozen h.out 4⟩
end
section
variable {P:Program} {ops:Array Oper} {Q:Exit→Act→World→Prop} {rest:List Oper} {o:Oper} {a:Act}
theorem gL {w:World} (N:Option Tmp) {f:FuncId} {fn:Func} {az:Array Operand} {ts:Array TypeId} (hf:P.funcs[f]?=some fn) (args:Array Value) (h:Calls P f args w fun e w'=>∃ v,e=.returned v∧wpList P ops Q rest (a.put N v) w')
    (hd : o.dst = N := by rfl) (hg : o.guard = none := by rfl) (hname : (fn.name == "runtime.NumGoroutine") = false := by kernel_rfl) (hb : fn.body.isSome = true := by rfl)
    (hop:o.op=.call { callee:=.value (.func f),args:=az,argTypes:=ts }:=by rfl) (hargs:az.map a.eval=args:=by ((try simp only [List.map_toArray,List.map_cons,List.map_nil]);first | done | rfl|(simp only [List.length_drop,List.length_take];rfl))):wpList P ops Q (o :: rest) a w:=goesL_ N hd hg hf hname hb args hop hargs h
theorem bx {W:World} (N:Tmp) (cs:Array Value) (t:TypeId)
    (h:∀ g,g=W.heap.size→∀ w1,Aside0 (w1.heap[g]?=some (.cells cs t (0,0)))→Below W.heap.size W w1→wpList P ops Q rest (a.put o.dst (.pointer (some ⟨g,0,none⟩))) w1)
    (hd:o.dst=some N:=by rfl) (hg:o.guard=none:=by rfl) (hr:(execOp a.eval o).run P W=.ok (.value (.pointer (some ⟨W.heap.size,0,none⟩))) (W.alloc (.cells cs t (0,0))):=by first|(go_simp;done)|(go_simp;rfl)):wpList P ops Q (o :: rest) a W :=
  box_event hg hd hr (fun g e w1 h1 h2=>h g e w1 ⟨h1⟩ h2)
end
theorem od {p:Prop} [Decidable p] (h:decide p=true:=by first|(with_reducible assumption) | assumption):p:=of_decide_eq_true h
theorem dr {w W:World} (h:Drawn0 w W:=by ((repeat (first | exact Drawn0.refl _ | apply Drawn0.step));first | done | fail)):Drawn0 w W:=h
theorem eqt {α:Type} [BEq α] [LawfulBEq α] {a b:α} (h:a=b):(a == b)=true∧(a != b)=false:=⟨beq_iff_eq.mpr h,bne_eq_false_iff_eq.mpr h⟩
theorem eqf {α:Type} [BEq α] [LawfulBEq α] {a b:α} (h:¬ a=b):(a == b)=false∧(a != b)=true:=⟨beq_eq_false_iff_ne.mpr h,bne_iff_ne.mpr h⟩
theorem hcl {w W W':World} {a:Addr} {v:Value} (h:Aside0 (Below w.heap.size w W)) (hc:w.cell? a=some v) (e:W'.cell? a=W.cell? a:=by rfl):W'.cell? a=some v:=e.trans ((h.out.cell (World.block_lt_of_cell? w _ hc)).trans hc)
section
variable {P:Program} {md:Region.Mode} {ops:Array Oper} {Q:Exit→Act→World→Prop} {S:World→Prop} {ds:List Nat} {oi:Oper} {v:Value} {fuel:Nat} {l:Array Bool} {a a':Act} {w:World} {rest:List Oper} {o:Oper}
theorem nm (h:wpAnyLast P md ops Q S ds fuel l a' w) (ha:a=a':=by (show Act.put _ (some _) _=_;simp only [Act.put,List.setIfInBounds_toArray,List.set_cons_zero,List.set_cons_succ,i64_w,i32_w];rfl)):wpAnyLast P md ops Q S ds fuel l a w:=norm_ ha h
theorem on (i N:Nat) (l':Array Bool)
    (h:∀ K:Act→World→Prop,Shut (∀ a' w',S w'→(S w'→wpAnyLast P md ops Q S ds fuel l' a' w')→K a' w')→if Region.wanted oi (yielded ops a.tmps)=true then Oper.wp P oi a w K Q else K (a.put (some N) undef) w)
    (hi:ops[i]?=some oi:=by rfl) (hN:oi.dst=some N:=by rfl) (hc:readyB md ops l l' i=true:=by exact one_of HT_.out (by kernel_rfl)) (hd:i ∉ ds:=by decide):wpAnyLast P md ops Q S ds (fuel + 1) l a w:=one_ l' hi hN hc hd h
theorem gD (N:Option Tmp) {f:FuncId} {fn:Func} {az:Array Operand} {ts:Array TypeId} {v:Value} (hf:P.funcs[f]?=some fn) (args:Array Value) (c:Calls P f args w fun e w'=>e=.returned v∧Drawn0 w w') (h:∀ nd,wpList P ops Q rest (a.put N v) (w.drewN nd))
    (hd : o.dst = N := by rfl) (hg : o.guard = none := by rfl) (hname : (fn.name == "runtime.NumGoroutine") = false := by kernel_rfl) (hb : fn.body.isSome = true := by rfl)
    (hop:o.op=.call { callee:=.value (.func f),args:=az,argTypes:=ts }:=by rfl) (hargs:az.map a.eval=args:=by ((try simp only [List.map_toArray,List.map_cons,List.map_nil]);first | done | rfl|(simp only [List.length_drop,List.length_take];rfl))):wpList P ops Q (o :: rest) a w :=
  goesL_ N hd hg hf hname hb args hop hargs (c.mono (by rintro e w' ⟨rfl,⟨nd,rfl⟩⟩;exact ⟨_,rfl,h nd⟩))
end
section
variable {α:Type} {x y r:α}
theorem ifb {b:Bool} (h:(if b=true then x else y)=r):(b=true∧x=r)∨(b=false∧y=r):=by cases b with
  | true=>exact Or.inl ⟨rfl,h⟩
  | false=>exact Or.inr ⟨rfl,h⟩
theorem ifd {p:Prop} [Decidable p] (h:(if p then x else y)=r):(decide p=true∧x=r)∨(decide p=false∧y=r):=by
  by_cases c:p
  · rw [if_pos c] at h;exact Or.inl ⟨decide_eq_true c,h⟩
  · rw [if_neg c] at h;exact Or.inr ⟨decide_eq_false c,h⟩
theorem ife {β:Type} [BEq β] [LawfulBEq β] {a b:β} [Decidable (a=b)] (h:(if a=b then x else y)=r):(a=b∧(a == b)=true∧(a != b)=false∧x=r)∨(¬ a=b∧(a == b)=false∧(a != b)=true∧y=r):=by
  by_cases c:a=b
  · rw [if_pos c] at h;exact Or.inl ⟨c,beq_iff_eq.mpr c,bne_eq_false_iff_eq.mpr c,h⟩
  · rw [if_neg c] at h;exact Or.inr ⟨c,beq_eq_false_iff_ne.mpr c,bne_iff_ne.mpr c,h⟩
end
section
variable {P:Program} {ops:Array Oper} {Q:Exit→Act→World→Prop} {rest:List Oper} {o:Oper} {a:Act} {w:World}
theorem gX (N:Option Tmp) {f:FuncId} {fn:Func} {az:Array Operand} {ts:Array TypeId} {F:Value→Value} {Φ:Value→World→Prop} (hf:P.funcs[f]?=some fn) (args:Array Value) (c:Calls P f args w fun e w'=>∃ v,e=.returned (F v)∧Φ v w') (h:∀ v w',Φ v w'→wpList P ops Q rest (a.put N (F v)) w')
    (hd : o.dst = N := by rfl) (hg : o.guard = none := by rfl) (hname : (fn.name == "runtime.NumGoroutine") = false := by kernel_rfl) (hb : fn.body.isSome = true := by rfl)
    (hop:o.op=.call { callee:=.value (.func f),args:=az,argTypes:=ts }:=by rfl) (hargs:az.map a.eval=args:=by ((try simp only [List.map_toArray,List.map_cons,List.map_nil]);first | done | rfl|(simp only [List.length_drop,List.length_take];rfl))):wpList P ops Q (o :: rest) a w :=
  goesL_ N hd hg hf hname hb args hop hargs (c.mono (by rintro e w' ⟨v,rfl,hw⟩;exact ⟨_,rfl,h v w' hw⟩))
theorem gB (N:Option Tmp) {f:FuncId} {fn:Func} {az:Array Operand} {ts:Array TypeId} {v:Value} (hf:P.funcs[f]?=some fn) (args:Array Value) (c:Calls P f args w fun e w'=>e=.returned v∧Below w.heap.size w w') (h:∀ w',Below w.heap.size w w'→wpList P ops Q rest (a.put N v) w')
    (hd : o.dst = N := by rfl) (hg : o.guard = none := by rfl) (hname : (fn.name == "runtime.NumGoroutine") = false := by kernel_rfl) (hb : fn.body.isSome = true := by rfl)
    (hop:o.op=.call { callee:=.value (.func f),args:=az,argTypes:=ts }:=by rfl) (hargs:az.map a.eval=args:=by ((try simp only [List.map_toArray,List.map_cons,List.map_nil]);first | done | rfl|(simp only [List.length_drop,List.length_take];rfl))):wpList P ops Q (o :: rest) a w :=
  goesL_ N hd hg hf hname hb args hop hargs (c.mono (by rintro e w' ⟨rfl,hw⟩;exact ⟨_,rfl,h w' hw⟩))
end
section
variable {P:Prop}
theorem sI (h:P:=by ((repeat (first|(with_reducible first | exact HI0.out | apply IsS61.alloc | apply IsS61.drewN | apply IsS61.drew | apply IsS61.set_1 | apply IsS61.set_2 | refine IsS61.far ?_ (Aside0.out (by assumption)) _) | exact HI0.out));first | done | fail)):P:=h
theorem sB (h:P:=by ((repeat (first|(with_reducible first | exact HB.out | apply below_alloc | apply pw_below_drewN | apply below_drew1 | refine below_set ?_ (IsS61.ge HI0.out) | refine below_set ?_ (Aside0.out (by assumption))) | exact HB.out));first | done | fail)):P:=h
theorem sK (h:P:=by ((repeat (first|(with_reducible first | exact HK.out | apply KeepBut.set_ | apply keep_drewN | apply keep_drew | apply keep_alloc | refine keep_far ?_ (Aside0.out (by assumption)) _) | exact HK.out));first | done | fail)):P:=h
end
section
variable {P:Program} {ops:Array Oper} {Q:Exit→Act→World→Prop} {rest:List Oper} {o:Oper} {a:Act} {w w0 W w1 W1 W2:World} {g g':Nat} {ob:Obj}
theorem gd (N:Tmp) (h:wpList P ops Q (o :: rest) a w) (e:o.dst=some N:=by with_reducible exact rfl):wpList P ops Q (o :: rest) a w:=h
theorem gc (f:FuncId) {az:Array Operand} {ts:Array TypeId} (h:wpList P ops Q (o :: rest) a w) (e:o.op=.call { callee:=.value (.func f),args:=az,argTypes:=ts }:=by with_reducible exact rfl):wpList P ops Q (o :: rest) a w:=h
theorem kb (h:Aside0 (w.heap[g']?=some ob)) (n:Aside0 (g'≠g)) (hk:KeepBut W w1 g none) (e:w.heap[g']?=some ob→W.heap[g']?=some ob:=by (intro h_;first|(with_reducible exact h_)|((with_reducible repeat (first | refine blk_drewN ?_ _ | refine blk_drew ?_ | refine blk_alloc ?_ _ | refine blk_far ?_ (Aside0.out (by assumption)) _));exact h_))):Aside0 (w1.heap[g']?=some ob):=⟨KeepBut.blk hk (e h.out) n.out (by simp)⟩
theorem kt {row:Option Nat} (h:Aside0 (KeepBut w W1 g row)) (hk:KeepBut W w1 g none) (e:KeepBut w W g row:=by ((repeat (first|(with_reducible first | exact HK.out | apply KeepBut.set_ | apply keep_drewN | apply keep_drew | apply keep_alloc | refine keep_far ?_ (Aside0.out (by assumption)) _) | exact HK.out));first | done | fail)) (hr:none=row∨∃ b,none=some b∧w.heap.size≤b:=by exact .inl rfl):Aside0 (KeepBut w w1 g row):=⟨e.trans hk hr⟩
theorem gI (N:Option Tmp) {f:FuncId} {fn:Func} {az:Array Operand} {ts:Array TypeId} {v:Value} {I:World→Prop} (hf:P.funcs[f]?=some fn) (args:Array Value) (hB:Aside0 (Below w0.heap.size w0 W1)) (hK:Aside0 (KeepBut w W2 g none))
    (c:Calls P f args W fun e w'=>e=.returned v∧I w'∧Below w0.heap.size w0 w'∧KeepBut W w' g none) (h:∀ w',KeepBut W w' g none→Aside0 (Below w0.heap.size w0 w')→Aside0 (KeepBut w w' g none)→Aside0 (I w')→wpList P ops Q rest (a.put N v) w')
    (hW:KeepBut w W g none:=by ((repeat (first|(with_reducible first | exact HK.out | apply KeepBut.set_ | apply keep_drewN | apply keep_drew | apply keep_alloc | refine keep_far ?_ (Aside0.out (by assumption)) _) | exact HK.out));first | done | fail))
    (hd : o.dst = N := by rfl) (hg : o.guard = none := by rfl) (hname : (fn.name == "runtime.NumGoroutine") = false := by kernel_rfl) (hb : fn.body.isSome = true := by rfl)
    (hop:o.op=.call { callee:=.value (.func f),args:=az,argTypes:=ts }:=by rfl) (hargs:az.map a.eval=args:=by ((try simp only [List.map_toArray,List.map_cons,List.map_nil]);first | done | rfl|(simp only [List.length_drop,List.length_take];rfl))):wpList P ops Q (o :: rest) a W :=
  goesL_ N hd hg hf hname hb args hop hargs (c.mono (by rintro e w' ⟨rfl,hi,hb,hk⟩;exact ⟨_,rfl,h w' hk ⟨hb⟩ ⟨hW.trans hk (.inl rfl)⟩ ⟨hi⟩⟩))
end
theorem sk {P:Program} {oi:Oper} {a:Act} {w w1:World} {K:Act→World→Prop} {ops:Array Oper} {Q:Exit→Act→World→Prop} (h:K a w1) (hw:Region.wanted oi (yielded ops a.tmps)=true:=by rfl) (hN:oi.dst=none:=by rfl) (hr:(execOp a.eval oi).run P w=.ok .skip w1:=by (go_simp;rfl)) :
    if Region.wanted oi (yielded ops a.tmps)=true then Oper.wp P oi a w K Q else K (a.put none undef) w:=skip_ hw hN hr h
theorem hf {S S':Prop} (h:S) (e:S→S':=by (intro h_;(repeat (have s_:=h_.1;replace h_:=h_.2));((repeat' apply And.intro) <;> (first|(with_reducible assumption)|(with_reducible repeat (first | assumption | refine (cell_far (Aside0.out (by assumption)) _).trans ?_)) | assumption)))):S':=e h
section
variable {p:Prop} {w W:World} {g i n:Nat} {a:Addr} {u:Value} {o o':Obj} {cs cs1 cs':Array Value} {t:TypeId}
theorem zN (h:p→W.heap[g]?=some o):p→(W.drewN n).heap[g]?=some o:=h
theorem zD (h:p→W.heap[g]?=some o):p→W.drew.heap[g]?=some o:=h
theorem zA (h:p→W.heap[g]?=some o):p→(W.alloc o').heap[g]?=some o:=fun q=>blk_alloc (h q) _
theorem zF (e:g≠a.block) (h:p→W.heap[g]?=some (.cells cs t (0,0))):p→(W.setCell a u).heap[g]?=some (.cells cs t (0,0)):=fun q=>blk_far (h q) e u
theorem zS (h:p→W.heap[g]?=some (.cells cs t (0,0))):p→(W.setCell ⟨g,i,none⟩ u).heap[g]?=some (.cells (cs.setIfInBounds i u) t (0,0)):=fun q=>blk_set (h q) i u
theorem bP (h:Aside0 (w.heap[g]?=some (.cells cs t (0,0)))) (e:w.heap[g]?=some (.cells cs t (0,0))→W.heap[g]?=some (.cells cs1 t (0,0)):=by ((with_reducible repeat (first | refine zN ?_ | refine zD ?_ | refine zA ?_|(apply zF;exact Aside0.out (by assumption)) | apply zS));exact id)) (e2:cs1=cs':=by rfl):W.heap[g]?=some (.cells cs' t (0,0)):=e2 ▸ e h.out
theorem bA (h:Aside0 (w.heap[g]?=some (.cells cs t (0,0)))) (e:w.heap[g]?=some (.cells cs t (0,0))→W.heap[g]?=some (.cells cs1 t (0,0)):=by ((with_reducible repeat (first | refine zN ?_ | refine zD ?_ | refine zA ?_|(apply zF;exact Aside0.out (by assumption)) | apply zS));exact id)) (e2:cs1=cs':=by rfl):Aside0 (W.heap[g]?=some (.cells cs' t (0,0))):=⟨e2 ▸ e h.out⟩
theorem nn {a b:Nat} (h:Aside0 (a≠b)):a≠b∧b≠a:=⟨h.out,h.out.symm⟩
theorem cB {P:Program} {f:FuncId} {az:Array Value} {v:Value} {K:Ending→World→Prop} (c:Calls P f az w fun e w'=>e=.returned v∧Below w.heap.size w w') (h:∀ w',Below w.heap.size w w'→K (.returned v) w'):Calls P f az w K:=c.mono (by rintro e w' ⟨rfl,hb⟩;exact h w' hb)
theorem cD {P:Program} {f:FuncId} {az:Array Value} {v:Value} {K:Ending→World→Prop} (c:Calls P f az w fun e w'=>e=.returned v∧Drawn0 w w') (h:∀ nd,K (.returned v) (w.drewN nd)):Calls P f az w K:=c.mono (by rintro e w' ⟨rfl,⟨nd,rfl⟩⟩;exact h nd)
theorem cX {P:Program} {f:FuncId} {az:Array Value} {F:Value→Value} {Φ:Value→World→Prop} {K:Ending→World→Prop} (c:Calls P f az w fun e w'=>∃ v,e=.returned (F v)∧Φ v w') (h:∀ v w',Φ v w'→K (.returned (F v)) w'):Calls P f az w K:=c.mono (by rintro e w' ⟨v,rfl,hb⟩;exact h v w' hb)
end
section
variable {α:Type} {x:Option α} {r:α} {p:Prop} [Decidable p]
theorem ifn (h:(if p then x else none)=some r):p∧x=some r:=by
  by_cases c:p
  · rw [if_pos c] at h;exact ⟨c,h⟩
  · rw [if_neg c] at h;cases h
theorem ifN (h:(if p then x else none)=some r):decide p=true∧x=some r:=⟨decide_eq_true (ifn h).1,(ifn h).2⟩
theorem ifF {b:Bool} (h:(if b=true then none else x)=some r):b=false∧x=some r:=by cases b with
  | true=>cases h
  | false=>exact ⟨rfl,h⟩
theorem ifE {β:Type} [BEq β] [LawfulBEq β] {a b:β} [Decidable (a=b)] (h:(if a=b then x else none)=some r):(a == b)=true∧(a != b)=false∧x=some r:=⟨beq_iff_eq.mpr (ifn h).1,bne_eq_false_iff_eq.mpr (ifn h).1,(ifn h).2⟩
end
theorem qd {P:Prop} (h:P:=by (first | exact hd0 | exact (hb2.cell (World.block_lt_of_cell? _ _ hx0)).trans hx0 | exact ((below_alloc hb2 _).cell (World.block_lt_of_cell? _ _ hx0)).trans hx0 | exact ((below_drew (below_alloc (Below.refl _ _) _)).cell (World.block_lt_of_cell? _ _ hx0)).trans hx0 | exact hd1 | exact (hb2.cell (World.block_lt_of_cell? _ _ hx1)).trans hx1 | exact ((below_alloc hb2 _).cell (World.block_lt_of_cell? _ _ hx1)).trans hx1 | exact ((below_drew (below_alloc (Below.refl _ _) _)).cell (World.block_lt_of_cell? _ _ hx1)).trans hx1 | exact hd2 | exact (hb2.cell (World.block_lt_of_cell? _ _ hx2)).trans hx2 | exact ((below_alloc hb2 _).cell (World.block_lt_of_cell? _ _ hx2)).trans hx2 | exact ((below_drew (below_alloc (Below.refl _ _) _)).cell (World.block_lt_of_cell? _ _ hx2)).trans hx2 | exact hd3 | exact (hb2.cell (World.block_lt_of_cell? _ _ hx3)).trans hx3 | exact ((below_alloc hb2 _).cell (World.block_lt_of_cell? _ _ hx3)).trans hx3 | exact ((below_drew (below_alloc (Below.refl _ _) _)).cell (World.block_lt_of_cell? _ _ hx3)).trans hx3|(refine Eq.trans (World.cell?_setCell_other _ _ _ _ (fun e_=>absurd (congrArg Addr.block e_) hne)) ?_;refine Eq.trans (World.cell?_setCell_other _ _ _ _ (fun e_=>absurd (congrArg Addr.block e_) hne)) ?_;refine Eq.trans (World.cell?_setCell_other _ _ _ _ (fun e_=>absurd (congrArg Addr.block e_) hne)) ?_;refine Eq.trans (World.cell?_setCell_other _ _ _ _ (fun e_=>absurd (congrArg Addr.block e_) hne)) ?_;first | exact (hb2.cell (World.block_lt_of_cell? _ _ hx0)).trans hx0 | exact (hb2.cell (World.block_lt_of_cell? _ _ hx1)).trans hx1 | exact (hb2.cell (World.block_lt_of_cell? _ _ hx2)).trans hx2 | exact (hb2.cell (World.block_lt_of_cell? _ _ hx3)).trans hx3))):P:=h
end Go.Proofs.YtdfekcelcdkjlaaGreatV
