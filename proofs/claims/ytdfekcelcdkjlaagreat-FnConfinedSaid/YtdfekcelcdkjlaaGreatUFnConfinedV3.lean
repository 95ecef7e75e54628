/- Words that the printed proofs of this claim use: plain theorems, for every program (out of the print's words: what the law does not reach is left out). -/
import Derived.Test.YtdfekcelcdkjlaaGreatProg
import Derived.Test.YtdfekcelcdkjlaaGreatUFnConfinedV
import Derived.Test.YtdfekcelcdkjlaaGreatUFnConfinedWMore
import Derived.Laws.IdiomCopy
import Derived.Deep.WholeRow
import Derived.Laws.Rows
import Derived.KernelRfl
namespace Go.Proofs.YtdfekcelcdkjlaaGreatV
open Go.RowKit Go.Proofs.YtdfekcelcdkjlaaGreatW.PrintWords Go.Proofs.YtdfekcelcdkjlaaGreatW.PrintLast Go.Proofs.YtdfekcelcdkjlaaGreatW.PrintMore
set_option linter.unusedVariables false
set_option linter.unusedSimpArgs false
def rowT (T:Int→Int→Int→Int→Int × Int × Int × Int) (x:List Int) (r:Nat):List Int:=(((x.set r (T (rd x r) (rd x (r + 1:Nat)) (rd x (r + 2:Nat)) (rd x (r + 3:Nat))).1).set (r + 1) (T (rd x r) (rd x (r + 1:Nat)) (rd x (r + 2:Nat)) (rd x (r + 3:Nat))).2.1).set (r + 2) (T (rd x r) (rd x (r + 1:Nat)) (rd x (r + 2:Nat)) (rd x (r + 3:Nat))).2.2.1).set (r + 3) (T (rd x r) (rd x (r + 1:Nat)) (rd x (r + 2:Nat)) (rd x (r + 3:Nat))).2.2.2
def colT (T:Int→Int→Int→Int→Int × Int × Int × Int) (x:List Int) (r:Nat):List Int:=(((x.set r (T (rd x r) (rd x (r + 4:Nat)) (rd x (r + 8:Nat)) (rd x (r + 12:Nat))).1).set (r + 4) (T (rd x r) (rd x (r + 4:Nat)) (rd x (r + 8:Nat)) (rd x (r + 12:Nat))).2.1).set (r + 8) (T (rd x r) (rd x (r + 4:Nat)) (rd x (r + 8:Nat)) (rd x (r + 12:Nat))).2.2.1).set (r + 12) (T (rd x r) (rd x (r + 4:Nat)) (rd x (r + 8:Nat)) (rd x (r + 12:Nat))).2.2.2
def rowsT (T:Int→Int→Int→Int→Int × Int × Int × Int) (x:List Int):Nat→List Int
  | 0=>x
  | n + 1=>rowT T (rowsT T x n) (4 * n)
def colsT (T:Int→Int→Int→Int→Int × Int × Int × Int) (x:List Int):Nat→List Int
  | 0=>x
  | n + 1=>colT T (colsT T x n) n
def turnedL (T:Int→Int→Int→Int→Int × Int × Int × Int) (x:List Int):List Int:=colsT T (rowsT T x 4) 4
theorem cell_in4 {w:World} {b:Nat} {cs:Array Value} {T:TypeId} {fr:Nat × Nat} (hb:w.heap[b]?=some (.cells cs T fr)) (j:Nat):w.cell? ⟨b,j,none⟩=cs[j]?:=by simp [World.cell?,hb]
theorem new4 (w:World) (v0 v1 v2 v3:Value):(w.alloc (.cells #[v0,v1,v2,v3] 98)).cell? ⟨w.heap.size,0,none⟩=some v0∧(w.alloc (.cells #[v0,v1,v2,v3] 98)).cell? ⟨w.heap.size,1,none⟩=some v1∧(w.alloc (.cells #[v0,v1,v2,v3] 98)).cell? ⟨w.heap.size,2,none⟩=some v2∧(w.alloc (.cells #[v0,v1,v2,v3] 98)).cell? ⟨w.heap.size,3,none⟩=some v3 :=
  ⟨cell_in4 (heap_alloc_new w _) 0,cell_in4 (heap_alloc_new w _) 1,cell_in4 (heap_alloc_new w _) 2,cell_in4 (heap_alloc_new w _) 3⟩
theorem set4 (w:World) (g:Nat) (u0 u1 u2 u3 v0 v1 v2 v3:Value) (h0:w.cell? ⟨g,0,none⟩=some u0) (h1:w.cell? ⟨g,1,none⟩=some u1) (h2:w.cell? ⟨g,2,none⟩=some u2) (h3:w.cell? ⟨g,3,none⟩=some u3) :
    ((((w.setCell ⟨g,0,none⟩ v0).setCell ⟨g,1,none⟩ v1).setCell ⟨g,2,none⟩ v2).setCell ⟨g,3,none⟩ v3).cell? ⟨g,0,none⟩=some v0∧((((w.setCell ⟨g,0,none⟩ v0).setCell ⟨g,1,none⟩ v1).setCell ⟨g,2,none⟩ v2).setCell ⟨g,3,none⟩ v3).cell? ⟨g,1,none⟩=some v1∧((((w.setCell ⟨g,0,none⟩ v0).setCell ⟨g,1,none⟩ v1).setCell ⟨g,2,none⟩ v2).setCell ⟨g,3,none⟩ v3).cell? ⟨g,2,none⟩=some v2∧((((w.setCell ⟨g,0,none⟩ v0).setCell ⟨g,1,none⟩ v1).setCell ⟨g,2,none⟩ v2).setCell ⟨g,3,none⟩ v3).cell? ⟨g,3,none⟩=some v3:=by
  have ne:∀ i j:Nat,i≠j→(⟨g,i,none⟩:Addr)≠⟨g,j,none⟩:=fun i j h e=>h (congrArg Addr.off e)
  refine ⟨?_,?_,?_,?_⟩
  · rw [World.cell?_setCell_other _ _ _ _ (ne 3 0 (by decide)),World.cell?_setCell_other _ _ _ _ (ne 2 0 (by decide)),World.cell?_setCell_other _ _ _ _ (ne 1 0 (by decide))];exact World.cell?_setCell_same _ _ _ h0
  · rw [World.cell?_setCell_other _ _ _ _ (ne 3 1 (by decide)),World.cell?_setCell_other _ _ _ _ (ne 2 1 (by decide))];exact World.cell?_setCell_same _ _ _ (by rw [World.cell?_setCell_other _ _ _ _ (ne 0 1 (by decide))];exact h1)
  · rw [World.cell?_setCell_other _ _ _ _ (ne 3 2 (by decide))];exact World.cell?_setCell_same _ _ _ (by rw [World.cell?_setCell_other _ _ _ _ (ne 1 2 (by decide)),World.cell?_setCell_other _ _ _ _ (ne 0 2 (by decide))];exact h2)
  · exact World.cell?_setCell_same _ _ _ (by rw [World.cell?_setCell_other _ _ _ _ (ne 2 3 (by decide)),World.cell?_setCell_other _ _ _ _ (ne 1 3 (by decide)),World.cell?_setCell_other _ _ _ _ (ne 0 3 (by decide))];exact h3)
theorem put4 {base:Nat} {w0 w:World} {g co:Nat} {x:List Int} (h:Kd.R (Kd.int .i64) 3 w base (fun _=>True) (.slice (some ⟨g,0,none⟩) 16 co) x) (r:Nat) (v0 v1 v2 v3:Int) :
    Kd.R (Kd.int .i64) 3 (w.setCells g r [.int .i64 v0,.int .i64 v1,.int .i64 v2,.int .i64 v3]) base (fun _=>True) (.slice (some ⟨g,0,none⟩) 16 co) ((((x.set r v0).set (r + 1) v1).set (r + 2) v2).set (r + 3) v3) :=
  (Kd.R_putg (Kd.R_putg (Kd.R_putg (Kd.R_putg h (r:Int) v0).1 ((r + 1:Nat):Int) v1).1 ((r + 2:Nat):Int) v2).1 ((r + 3:Nat):Int) v3).1
theorem below_put4 {w0 w:World} {g:Nat} (h:Below w0.heap.size w0 w) (hg:w0.heap.size≤g) (r:Nat) (a b c d:Value):Below w0.heap.size w0 (w.setCells g r [a,b,c,d]) :=
  below_set (below_set (below_set (below_set h hg) hg) hg) hg
theorem copy4 {base:Nat} {w:World} {g co b:Nat} {x:List Int} (h:Kd.R (Kd.int .i64) 3 w base (fun _=>True) (.slice (some ⟨g,0,none⟩) 16 co) x) (r:Nat) (hr:r≤12) (v0 v1 v2 v3:Int) (k0:w.cell? ⟨b,0,none⟩=some (.int .i64 v0)) (k1:w.cell? ⟨b,1,none⟩=some (.int .i64 v1)) (k2:w.cell? ⟨b,2,none⟩=some (.int .i64 v2)) (k3:w.cell? ⟨b,3,none⟩=some (.int .i64 v3)) (ty:TypeId) (dc sc:Nat) :
    (Builtin.copy_ #[33,33] ty #[.slice (some ⟨g,r,none⟩) 4 dc,.slice (some ⟨b,0,none⟩) 4 sc]).run Tryz.prog w=.ok (goInt 4) (w.setCells g r [.int .i64 v0,.int .i64 v1,.int .i64 v2,.int .i64 v3]):=by
  refine run_copy_cells (P:=Tryz.prog) w 33 33 ty 3 g r 4 dc ⟨b,0,none⟩ 4 sc [.int .i64 v0,.int .i64 v1,.int .i64 v2,.int .i64 v3] Tryz.underlying33 (by kernel_rfl) rfl ?_ ?_ ?_ ?_
  · intro j v hj
    match j,hj with
    | 0,hj=>obtain rfl:=Option.some.inj hj;simpa [Addr.add] using k0
    | 1,hj=>obtain rfl:=Option.some.inj hj;simpa [Addr.add] using k1
    | 2,hj=>obtain rfl:=Option.some.inj hj;simpa [Addr.add] using k2
    | 3,hj=>obtain rfl:=Option.some.inj hj;simpa [Addr.add] using k3
    | n + 4,hj=>simp at hj
  · intro j hj;have:=(Kd.R_celln 0 h ((r + j:Nat):Int) (by omega) (by simp at hj;omega)).1;rw [show ((r + j:Nat):Int).toNat=r + j from Int.toNat_natCast _] at this;rw [this];rfl
  · intro j hj;have:=(Kd.R_celln 0 h ((r + j:Nat):Int) (by omega) (by simp at hj;omega)).2
    rwa [show ((r + j:Nat):Int).toNat=r + j from Int.toNat_natCast _] at this
  · intro v hv
    simp at hv
    rcases hv with rfl | rfl | rfl | rfl <;> rfl
theorem isize3:(Tryz.prog.info? 3).map (·.size)=some 1:=by kernel_rfl
theorem index4 (W:World) (v0 v1 v2 v3:Int):(Instr.index 98 (.agg #[.int .i64 v0,.int .i64 v1,.int .i64 v2,.int .i64 v3]) (.int .i64 0)).run Tryz.prog W=.ok (.int .i64 v0) W∧(Instr.index 98 (.agg #[.int .i64 v0,.int .i64 v1,.int .i64 v2,.int .i64 v3]) (.int .i64 1)).run Tryz.prog W=.ok (.int .i64 v1) W∧(Instr.index 98 (.agg #[.int .i64 v0,.int .i64 v1,.int .i64 v2,.int .i64 v3]) (.int .i64 2)).run Tryz.prog W=.ok (.int .i64 v2) W∧(Instr.index 98 (.agg #[.int .i64 v0,.int .i64 v1,.int .i64 v2,.int .i64 v3]) (.int .i64 3)).run Tryz.prog W=.ok (.int .i64 v3) W:=by
  have hi:=isize3;cases hq:Tryz.prog.info? 3 with
  | none=>simp [hq] at hi
  | some d =>
    have hi:d.size=1:=by simpa [hq] using hi
    refine ⟨?_,?_,?_,?_⟩ <;> simp [Instr.index,run_underlying Tryz.underlying98,asIntOf,part,sizeOf,typeInfo,hq,hi,isAgg]
theorem share4 {G P:Prop} (h:G→P) (g:G):P:=h g
def setsT (x:List Int) (c:Nat) (v:Int × Int × Int × Int):Nat→List Int
  | 0=>x
  | 1=>x.set c v.1
  | 2=>(x.set c v.1).set (c + 4) v.2.1
  | 3=>((x.set c v.1).set (c + 4) v.2.1).set (c + 8) v.2.2.1
  | _=>(((x.set c v.1).set (c + 4) v.2.1).set (c + 8) v.2.2.1).set (c + 12) v.2.2.2
theorem set4heap (W:World) (g:Nat) (u0 u1 u2 u3 v0 v1 v2 v3:Value) (t:TypeId) (h:W.heap[g]?=some (.cells #[u0,u1,u2,u3] t)):((((W.setCell ⟨g,0,none⟩ v0).setCell ⟨g,1,none⟩ v1).setCell ⟨g,2,none⟩ v2).setCell ⟨g,3,none⟩ v3).heap[g]?=some (.cells #[v0,v1,v2,v3] t):=by
  rw [setCell_eq_setRow W g 0 _ t (0,0) v0 h];have h1:=setRow_heap W g _ (#[u0,u1,u2,u3].setIfInBounds 0 v0) t (0,0) h;rw [setCell_eq_setRow _ g 1 _ t (0,0) v1 h1];have h2:=setRow_heap _ g _ ((#[u0,u1,u2,u3].setIfInBounds 0 v0).setIfInBounds 1 v1) t (0,0) h1;rw [setCell_eq_setRow _ g 2 _ t (0,0) v2 h2];have h3:=setRow_heap _ g _ (((#[u0,u1,u2,u3].setIfInBounds 0 v0).setIfInBounds 1 v1).setIfInBounds 2 v2) t (0,0) h2;rw [setCell_eq_setRow _ g 3 _ t (0,0) v3 h3];exact setRow_heap _ g _ ((((#[u0,u1,u2,u3].setIfInBounds 0 v0).setIfInBounds 1 v1).setIfInBounds 2 v2).setIfInBounds 3 v3) t (0,0) h3
end Go.Proofs.YtdfekcelcdkjlaaGreatV
