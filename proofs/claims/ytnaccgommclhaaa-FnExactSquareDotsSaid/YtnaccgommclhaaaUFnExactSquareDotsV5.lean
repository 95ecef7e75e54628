/- Words that the printed proofs of this claim use: plain theorems, for every program (out of the print's words: what the law does not reach is left out). -/
import Derived.Test.YtnaccgommclhaaaProg
import Derived.Test.YtnaccgommclhaaaUFnExactSquareDotsV
import Derived.Test.YtnaccgommclhaaaUFnExactSquareDotsWMore
import Derived.Test.YtnaccgommclhaaaUFnExactSquareDotsWLast
import Derived.Test.YtnaccgommclhaaaUFnExactSquareDotsWTab
import Derived.KernelRfl
namespace Go.Proofs.YtnaccgommclhaaaV
open Go.RowKit Go.Proofs.YtnaccgommclhaaaW.PrintWords Go.Proofs.YtnaccgommclhaaaW.PrintLast Go.Proofs.YtnaccgommclhaaaW.PrintMore
set_option linter.unusedVariables false
section
variable {b : Nat} {w0 w W w1 : World} {g g' : Nat} {o o' : Obj}
theorem bb (h : Aside0 (w.heap[g]? = some o)) (hb : Below W.heap.size W w1) (e : w.heap[g]? = some o → W.heap[g]? = some o := by (intro h_; first | (with_reducible exact h_) | ((with_reducible repeat (first | refine blk_drewN ?_ _ | refine blk_drew ?_ | refine blk_alloc ?_ _)); exact h_))) : Aside0 (w1.heap[g]? = some o) := ⟨blk_below (e h.out) hb⟩
theorem bk (h : Aside0 (w.heap[g]? = some o)) (e : w.heap[g]? = some o → W.heap[g]? = some o := by (intro h_; first | (with_reducible exact h_) | ((with_reducible repeat (first | refine blk_drewN ?_ _ | refine blk_drew ?_ | refine blk_alloc ?_ _)); exact h_))) : Aside0 (W.heap[g]? = some o) := ⟨e h.out⟩
theorem bt (h : Aside0 (w.heap[g]? = some o)) (e : w.heap[g]? = some o → W.heap[g]? = some o := by (intro h_; first | (with_reducible exact h_) | ((with_reducible repeat (first | refine blk_drewN ?_ _ | refine blk_drew ?_ | refine blk_alloc ?_ _)); exact h_))) : W.heap[g]? = some o := e h.out
theorem bs (h : Aside0 (Below w0.heap.size w0 w)) (hb : Below W.heap.size W w1) (e : Below w0.heap.size w0 w → Below w0.heap.size w0 W := by (intro h_; repeat (first | (with_reducible first | exact h_ | apply below_alloc | apply pw_below_drewN | apply below_drew1 | refine below_set ?_ (Aside0.out (by assumption))) | exact h_))) : Aside0 (Below w0.heap.size w0 w1) := ⟨below_step (e h.out) hb⟩
theorem bh (h : Aside0 (Below w0.heap.size w0 w)) (e : Below w0.heap.size w0 w → Below w0.heap.size w0 W := by (intro h_; repeat (first | (with_reducible first | exact h_ | apply below_alloc | apply pw_below_drewN | apply below_drew1 | refine below_set ?_ (Aside0.out (by assumption))) | exact h_))) : Aside0 (Below w0.heap.size w0 W) := ⟨e h.out⟩
theorem bo (h : Aside0 (Below w0.heap.size w0 w)) (e : Below w0.heap.size w0 w → Below w0.heap.size w0 W := by (intro h_; repeat (first | (with_reducible first | exact h_ | apply below_alloc | apply pw_below_drewN | apply below_drew1 | refine below_set ?_ (Aside0.out (by assumption))) | exact h_))) : Below w0.heap.size w0 W := e h.out
theorem ge (h : Aside0 (Below w0.heap.size w0 w)) (hg : g = W.heap.size) (e : Below w0.heap.size w0 w → Below w0.heap.size w0 W := by (intro h_; repeat (first | (with_reducible first | exact h_ | apply below_alloc | apply pw_below_drewN | apply below_drew1 | refine below_set ?_ (Aside0.out (by assumption))) | exact h_))) : Aside0 (w0.heap.size ≤ g) := ⟨hg ▸ below_size (e h.out)⟩
theorem n1 (h : Aside0 (w.heap[g]? = some o)) (hg : g' = W.heap.size) (e : w.heap[g]? = some o → W.heap[g]? = some o := by (intro h_; first | (with_reducible exact h_) | ((with_reducible repeat (first | refine blk_drewN ?_ _ | refine blk_drew ?_ | refine blk_alloc ?_ _)); exact h_))) : Aside0 (g ≠ g') := ⟨hg ▸ Nat.ne_of_lt (blk_lt (e h.out))⟩
theorem n2 (h : Aside0 (w.heap[g]? = some o)) (hg : g' = W.heap.size) (e : w.heap[g]? = some o → W.heap[g]? = some o := by (intro h_; first | (with_reducible exact h_) | ((with_reducible repeat (first | refine blk_drewN ?_ _ | refine blk_drew ?_ | refine blk_alloc ?_ _)); exact h_))) : Aside0 (g' ≠ g) := ⟨hg ▸ Nat.ne_of_gt (blk_lt (e h.out))⟩
end
section
variable {P : Prop}
theorem rv (h : P := by first | rfl | (simp; done) | (simp [*]; done)) : P := h
theorem re (h : P := by first | rfl | (simp [errW_none, errW_some] <;> rfl) | (simp [*, errW_none, errW_some] <;> rfl)) : P := h
theorem om (h : P := by first | omega | exact Nat.le_refl _) : Aside0 P := ⟨h⟩
theorem om1 {Q : Prop} (q : Q) (h : Q → P := by (intro q_; first | omega | exact Nat.le_refl _)) : Aside0 P := ⟨h q⟩
end
theorem nft : ¬ (false = true) := by decide
section
variable {α β : Type} {x : Option α} {f : α → Option β} {r : β} {a : α}
theorem bnd (h : x.bind f = some r) : ∃ a, Aside0 (x = some a) ∧ f a = some r := by
  obtain ⟨a, h1, h2⟩ := Option.bind_eq_some_iff.mp h
  exact ⟨a, ⟨h1⟩, h2⟩
theorem yl (h : (some a).bind f = some r) : ∃ y, Aside0 (y = a) ∧ f y = some r := ⟨a, ⟨rfl⟩, h⟩
end
def ba (n k : Nat) : Array Bool := ⟨(List.range n).map k.testBit⟩
theorem bc {w : World} {g : Nat} {cs : Array Value} {t : TypeId} {v : Value} (h : Aside0 (w.heap[g]? = some (.cells cs t (0, 0)))) (i : Nat) (e : cs[i]? = some v := by rfl) : w.cell? ⟨g, i, none⟩ = some v := (blk_cell h.out i).trans e
section
variable {P : Program} {md : Region.Mode} {ops : Array Oper} {Q : Exit → Act → World → Prop} {S : World → Prop} {ds : List Nat} {oi : Oper} {v : Value} {fuel : Nat} {l : Array Bool} {a a' : Act} {w : World}
theorem pu (i N : Nat) (l' : Array Bool) (h : wpAnyLast P md ops Q S ds fuel l' a' w) (hi : ops[i]? = some oi := by rfl) (hN : oi.dst = some N := by rfl) (hc : anyB md ops l l' i = true := by exact any_of HT_.out (by kernel_rfl))
    (hQ : ∀ c a w, Q (.panic c) (a.put oi.dst v) w → Q (.panic c) a w := by exact fun _ _ _ h => h) (hy : ∀ w', (execOp a.eval oi).run P w' = .ok (.value v) w' := by (intro w'; go_simp; with_reducible rfl)) (hg : Region.wanted oi (yielded ops a.tmps) = true := by rfl)
    (ha : a.put (some N) v = a' := by (simp only [Act.put, List.setIfInBounds_toArray, List.set_cons_zero, List.set_cons_succ, i64_w, i32_w]; rfl)) : wpAnyLast P md ops Q S ds (fuel + 1) l a w := pure_ l' hi hN hc hQ (Or.inl ⟨hg, hy⟩) ha h
theorem tk (i N : Nat) (l' : Array Bool) (hS : S w) (h : wpAnyLast P md ops Q S ds fuel l' a' w) (hi : ops[i]? = some oi := by rfl) (hN : oi.dst = some N := by rfl) (hc : takeB md ops ds l l' i = true := by exact take_ofW HT_.out HW_.out (by kernel_rfl))
    (hQ : ∀ c a w, Q (.panic c) (a.put oi.dst v) w → Q (.panic c) a w := by exact fun _ _ _ h => h) (hg : Region.wanted oi (yielded ops a.tmps) = true := by rfl) (hy : ∀ w', S w' → (execOp a.eval oi).run P w' = .ok (.value v) w' := by (intro w' hS_; (repeat (have s_ := hS_.1; replace hS_ := hS_.2)); go_simp; with_reducible rfl))
    (ha : a.put (some N) v = a' := by (simp only [Act.put, List.setIfInBounds_toArray, List.set_cons_zero, List.set_cons_succ, i64_w, i32_w]; rfl)) : wpAnyLast P md ops Q S ds (fuel + 1) l a w := take_ l' hi hN hc hQ (Or.inl ⟨hg, hy⟩) hS ha h
end
theorem gS {P : Program} {ops : Array Oper} {Q : Exit → Act → World → Prop} {w : World} {oi : Oper} {N : Option Tmp} {a : Act} {K : Act → World → Prop} {f : FuncId} {fn : Func} {az : Array Operand} {ts : Array TypeId} (hf : P.funcs[f]? = some fn) (args : Array Value)
    (h : Calls P f args w fun e w' => ∃ v, e = .returned v ∧ K (a.put N v) w') (hname : (fn.name == "runtime.NumGoroutine") = false := by kernel_rfl) (hb : fn.body.isSome = true := by rfl) (hw : Region.wanted oi (yielded ops a.tmps) = true := by rfl) (hN : oi.dst = N := by rfl)
    (hop : oi.op = .call { callee := .value (.func f), args := az, argTypes := ts } := by rfl) (hargs : az.map a.eval = args := by ((try simp only [List.map_toArray, List.map_cons, List.map_nil]); first | done | rfl | (simp only [List.length_drop, List.length_take]; rfl))) : if Region.wanted oi (yielded ops a.tmps) = true then Oper.wp P oi a w K Q else K (a.put N undef) w := goes_ hf hname hb args hw hN hop hargs h
section
variable {α : Type} {d : Kd α} {e base n : Nat} {ok : Nat → Prop} {v : Value} {xs : List α} {w W : World} {A : Option Addr}
theorem ra (h : d.R e w base ok v xs) (f : d.R e w base ok v xs → d.R e W base ok v xs := by (intro h_; first | (with_reducible exact h_) | ((with_reducible repeat (first | apply Kd.R_alloc | apply Kd.R_drewN | apply Kd.R_drew)); exact h_))) : Aside0 (d.R e W base ok v xs) := ⟨f h⟩
theorem ro (h : d.R e w base ok v xs) (f : d.R e w base ok v xs → d.R e W base ok v xs := by (intro h_; first | (with_reducible exact h_) | ((with_reducible repeat (first | apply Kd.R_alloc | apply Kd.R_drewN | apply Kd.R_drew)); exact h_))) : d.R e W base ok v xs := f h
theorem ca (h : d.C w A n xs) (f : d.C w A n xs → d.C W A n xs := by (intro h_; repeat (first | exact h_ | (with_reducible refine Kd.C_alloc ?_ _) | (with_reducible refine Kd.C_drewN ?_ _) | (with_reducible refine Kd.C_drew ?_)))) : d.C W A n xs := f h
end
section
variable {w : World} {g : Nat} {t : TypeId} {a b c d e f : Value}
theorem cl3 (h : Aside0 (w.heap[g]? = some (.cells #[a, b, c] t (0, 0)))) : w.cell? ⟨g, 0, none⟩ = some a ∧ w.cell? ⟨g, 1, none⟩ = some b ∧ w.cell? ⟨g, 2, none⟩ = some c ∧ w.frozen? ⟨g, 0, none⟩ = false ∧ w.frozen? ⟨g, 1, none⟩ = false ∧ w.frozen? ⟨g, 2, none⟩ = false :=
  ⟨blk_cell h.out 0, blk_cell h.out 1, blk_cell h.out 2, blk_frozen h.out 0, blk_frozen h.out 1, blk_frozen h.out 2⟩
theorem cl4 (h : Aside0 (w.heap[g]? = some (.cells #[a, b, c, d] t (0, 0)))) : w.cell? ⟨g, 0, none⟩ = some a ∧ w.cell? ⟨g, 1, none⟩ = some b ∧ w.cell? ⟨g, 2, none⟩ = some c ∧ w.cell? ⟨g, 3, none⟩ = some d ∧ w.frozen? ⟨g, 0, none⟩ = false ∧ w.frozen? ⟨g, 1, none⟩ = false ∧ w.frozen? ⟨g, 2, none⟩ = false ∧ w.frozen? ⟨g, 3, none⟩ = false :=
  ⟨blk_cell h.out 0, blk_cell h.out 1, blk_cell h.out 2, blk_cell h.out 3, blk_frozen h.out 0, blk_frozen h.out 1, blk_frozen h.out 2, blk_frozen h.out 3⟩
theorem cl5 (h : Aside0 (w.heap[g]? = some (.cells #[a, b, c, d, e] t (0, 0)))) : w.cell? ⟨g, 0, none⟩ = some a ∧ w.cell? ⟨g, 1, none⟩ = some b ∧ w.cell? ⟨g, 2, none⟩ = some c ∧ w.cell? ⟨g, 3, none⟩ = some d ∧ w.cell? ⟨g, 4, none⟩ = some e ∧ w.frozen? ⟨g, 0, none⟩ = false ∧ w.frozen? ⟨g, 1, none⟩ = false ∧ w.frozen? ⟨g, 2, none⟩ = false ∧ w.frozen? ⟨g, 3, none⟩ = false ∧ w.frozen? ⟨g, 4, none⟩ = false :=
  ⟨blk_cell h.out 0, blk_cell h.out 1, blk_cell h.out 2, blk_cell h.out 3, blk_cell h.out 4, blk_frozen h.out 0, blk_frozen h.out 1, blk_frozen h.out 2, blk_frozen h.out 3, blk_frozen h.out 4⟩
end
section
variable {P : Program} {ops : Array Oper} {Q : Exit → Act → World → Prop} {rest : List Oper} {o : Oper} {a : Act}
theorem gL {w : World} (N : Option Tmp) {f : FuncId} {fn : Func} {az : Array Operand} {ts : Array TypeId} (hf : P.funcs[f]? = some fn) (args : Array Value) (h : Calls P f args w fun e w' => ∃ v, e = .returned v ∧ wpList P ops Q rest (a.put N v) w')
    (hd : o.dst = N := by rfl) (hg : o.guard = none := by rfl) (hname : (fn.name == "runtime.NumGoroutine") = false := by kernel_rfl) (hb : fn.body.isSome = true := by rfl)
    (hop : o.op = .call { callee := .value (.func f), args := az, argTypes := ts } := by rfl) (hargs : az.map a.eval = args := by ((try simp only [List.map_toArray, List.map_cons, List.map_nil]); first | done | rfl | (simp only [List.length_drop, List.length_take]; rfl))) : wpList P ops Q (o :: rest) a w := goesL_ N hd hg hf hname hb args hop hargs h
theorem bx {W : World} (N : Tmp) (cs : Array Value) (t : TypeId)
    (h : ∀ g, g = W.heap.size → ∀ w1, Aside0 (w1.heap[g]? = some (.cells cs t (0, 0))) → Below W.heap.size W w1 → wpList P ops Q rest (a.put o.dst (.pointer (some ⟨g, 0, none⟩))) w1)
    (hd : o.dst = some N := by rfl) (hg : o.guard = none := by rfl) (hr : (execOp a.eval o).run P W = .ok (.value (.pointer (some ⟨W.heap.size, 0, none⟩))) (W.alloc (.cells cs t (0, 0))) := by first | (go_simp; done) | (go_simp; rfl)) : wpList P ops Q (o :: rest) a W :=
  box_event hg hd hr (fun g e w1 h1 h2 => h g e w1 ⟨h1⟩ h2)
end
theorem od {p : Prop} [Decidable p] (h : decide p = true := by first | (with_reducible assumption) | assumption) : p := of_decide_eq_true h
theorem dr {w W : World} (h : Drawn0 w W := by repeat (first | exact Drawn0.refl _ | apply Drawn0.step)) : Drawn0 w W := h
theorem eqt {α : Type} [BEq α] [LawfulBEq α] {a b : α} (h : a = b) : (a == b) = true ∧ (a != b) = false := ⟨beq_iff_eq.mpr h, bne_eq_false_iff_eq.mpr h⟩
theorem eqf {α : Type} [BEq α] [LawfulBEq α] {a b : α} (h : ¬ a = b) : (a == b) = false ∧ (a != b) = true := ⟨beq_eq_false_iff_ne.mpr h, bne_iff_ne.mpr h⟩
theorem hcl {w W W' : World} {a : Addr} {v : Value} (h : Aside0 (Below w.heap.size w W)) (hc : w.cell? a = some v) (e : W'.cell? a = W.cell? a := by rfl) : W'.cell? a = some v := e.trans ((h.out.cell (World.block_lt_of_cell? w _ hc)).trans hc)
section
variable {P : Program} {md : Region.Mode} {ops : Array Oper} {Q : Exit → Act → World → Prop} {S : World → Prop} {ds : List Nat} {oi : Oper} {v : Value} {fuel : Nat} {l : Array Bool} {a a' : Act} {w : World} {rest : List Oper} {o : Oper}
theorem nm (h : wpAnyLast P md ops Q S ds fuel l a' w) (ha : a = a' := by (show Act.put _ (some _) _ = _; simp only [Act.put, List.setIfInBounds_toArray, List.set_cons_zero, List.set_cons_succ, i64_w, i32_w]; rfl)) : wpAnyLast P md ops Q S ds fuel l a w := norm_ ha h
theorem on (i N : Nat) (l' : Array Bool)
    (h : ∀ K : Act → World → Prop, Shut (∀ a' w', S w' → (S w' → wpAnyLast P md ops Q S ds fuel l' a' w') → K a' w') → if Region.wanted oi (yielded ops a.tmps) = true then Oper.wp P oi a w K Q else K (a.put (some N) undef) w)
    (hi : ops[i]? = some oi := by rfl) (hN : oi.dst = some N := by rfl) (hc : readyB md ops l l' i = true := by exact one_of HT_.out (by kernel_rfl)) (hd : i ∉ ds := by decide) : wpAnyLast P md ops Q S ds (fuel + 1) l a w := one_ l' hi hN hc hd h
theorem gD (N : Option Tmp) {f : FuncId} {fn : Func} {az : Array Operand} {ts : Array TypeId} {v : Value} (hf : P.funcs[f]? = some fn) (args : Array Value) (c : Calls P f args w fun e w' => e = .returned v ∧ Drawn0 w w') (h : ∀ nd, wpList P ops Q rest (a.put N v) (w.drewN nd))
    (hd : o.dst = N := by rfl) (hg : o.guard = none := by rfl) (hname : (fn.name == "runtime.NumGoroutine") = false := by kernel_rfl) (hb : fn.body.isSome = true := by rfl)
    (hop : o.op = .call { callee := .value (.func f), args := az, argTypes := ts } := by rfl) (hargs : az.map a.eval = args := by ((try simp only [List.map_toArray, List.map_cons, List.map_nil]); first | done | rfl | (simp only [List.length_drop, List.length_take]; rfl))) : wpList P ops Q (o :: rest) a w :=
  goesL_ N hd hg hf hname hb args hop hargs (c.mono (by rintro e w' ⟨rfl, ⟨nd, rfl⟩⟩; exact ⟨_, rfl, h nd⟩))
end
end Go.Proofs.YtnaccgommclhaaaV
