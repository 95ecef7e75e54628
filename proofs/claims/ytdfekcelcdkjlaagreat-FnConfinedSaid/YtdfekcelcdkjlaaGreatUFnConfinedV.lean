/- Words that the printed proofs of this claim use: plain theorems, for every program (out of the print's words: what the law does not reach is left out). -/
import Derived.Test.YtdfekcelcdkjlaaGreatUFnConfinedWWords
import Derived.Test.YtdfekcelcdkjlaaGreatUFnConfinedWMore
import Derived.Test.YtdfekcelcdkjlaaGreatUFnConfinedWShare
import Derived.Deep.WholeRow
namespace Go.Proofs.YtdfekcelcdkjlaaGreatV
open Go.RowKit Go.Proofs.YtdfekcelcdkjlaaGreatW.PrintWords Go.Proofs.YtdfekcelcdkjlaaGreatW.PrintLast Go.Proofs.YtdfekcelcdkjlaaGreatW.PrintMore
theorem tmod42 (a:Int):(a.tmod 4).tmod 2=a.tmod 2:=Int.tmod_tmod_of_dvd a ⟨2,rfl⟩
section
variable {P:Program} {ops:Array Oper} {rest:List Oper} {o:Oper} {a:Act} {Q:Exit→Act→World→Prop}
theorem run_makecap (t e:TypeId) (k:IntKind) (bytes:Nat) (ht:P.underlying t=some (.slice e)) (hinfo:(P.info? e).map (fun i=>(i.zero,i.size,i.bytes))=some (some (.int k 0),1,bytes)) (n:Int) (h0:0≤n) (hl:n.toNat * bytes≤281474976710656) (hb0:0 < bytes) (W:World) :
    (Instr.makeSlice t (.int .i64 0) (.int .i64 n)).run P W=.ok (.slice (some ⟨W.heap.size,0,none⟩) 0 n.toNat) (W.alloc (.cells (madeCells #[.int k 0] n.toNat) e)):=by
  obtain ⟨i0,hi,hzz⟩:=Option.map_eq_some_iff.1 hinfo;simp only [Prod.mk.injEq] at hzz;obtain ⟨hz0,hz1,hz2⟩:=hzz;obtain ⟨m,rfl⟩:=Int.eq_ofNat_of_zero_le h0;simp only [Int.toNat_natCast] at hl;have hm:m≤281474976710656:=Nat.le_trans (Nat.le_mul_of_pos_right _ hb0) hl;have h3:((i0.bytes * m:Nat):Int)≤281474976710656:=by rw [hz2,Nat.mul_comm];omega
  have hr:=run_make (P:=P) (w:=W) t e i0 (.int k 0) ht hi hz0 .i64 .i64 0 (m:Int) (by omega) (by omega) (by rwa [Int.natCast_mul] at h3) (by omega)
  simpa [hz1,Value.cells] using hr
theorem own_makecap (W:World) (base e:Nat) (k:IntKind) (m:Nat) (hb:base≤W.heap.size) (hm:m≤9223372036854775807) :
    (W.alloc (.cells (madeCells #[.int k 0] m) e)).ownsRow base e 1 (.slice (some ⟨W.heap.size,0,none⟩) 0 m) 0 []:=by
  refine ⟨rfl,.inr ⟨W.heap.size,m,madeCells #[.int k 0] m,rfl,hb,heap_alloc_new W _,Nat.zero_le _,by simpa [maxLen] using hm,by simp [size_madeCells],by simp⟩⟩
theorem R_makecap (k:IntKind) {w0 W:World} (base e:Nat) (hgd:o.guard=none) {N:Tmp} (_hd:o.dst=some N) (t:TypeId) (x y:Operand) (ho:o.op=.makeSlice t x y) (n:Int) (hx:a.eval x=.int .i64 0) (hy:a.eval y=.int .i64 n)
    (ht:P.underlying t=some (.slice e)) (bytes:Nat) (hinfo:(P.info? e).map (fun i=>(i.zero,i.size,i.bytes))=some (some (.int k 0),1,bytes)) (hb0:0 < bytes)
    {ok:Nat→Prop} (hfresh:ok W.heap.size) (h0:0≤n) (hl:n.toNat * bytes≤281474976710656) (HB:Below base w0 W) (hbase:base≤W.heap.size)
    (h:∀ v1 w1,(Kd.int k).R e w1 base ok v1 ([]:List Int)→Below base w0 w1→W.grownBy w1 none→(∃ b,v1.ownBlock=some b∧W.heap.size≤b)→wpList P ops Q rest (a.put o.dst v1) w1):wpList P ops Q (o :: rest) a W:=by
  have hm:n.toNat≤281474976710656:=Nat.le_trans (Nat.le_mul_of_pos_right _ hb0) hl;refine Kd.event_run hgd (v:=.slice (some ⟨W.heap.size,0,none⟩) 0 n.toNat) (w1:=W.alloc (.cells (madeCells #[.int k 0] n.toNat) e)) ?_ (h _ _ (Kd.R_of_own (own_makecap W base e k n.toNat hbase (by omega)) ?_) (HB.alloc hbase _) (World.grownBy_alloc W _ _) ⟨_,rfl,Nat.le_refl _⟩)
  · simp [execOp,ho,hx,hy,run_makecap t e k bytes ht hinfo n h0 hl hb0 W]
  · intro q hq;have:W.heap.size=q:=by simpa [Value.ownBlock] using hq
    subst this;exact hfresh
end
end Go.Proofs.YtdfekcelcdkjlaaGreatV
