/- What the law reaches, as plain functions, each with the proof that its call comes to its answer: written by a program for this claim. -/
import Derived.Test.YtnaccgommclhaaaQFnExactSquareDotsx0
import Derived.Test.YtnaccgommclhaaaQFnExactSquareDotsx1
import Derived.Test.YtnaccgommclhaaaQFnExactSquareDotsx2
import Derived.Test.YtnaccgommclhaaaUFnExactSquareDotsV5
namespace Go.Proofs.Ytnaccgommclhaaa.QFnExactSquareDots
open Go.RowKit Go.Proofs.YtnaccgommclhaaaW.PrintWords Go.Proofs.YtnaccgommclhaaaW.PrintLast Go.Proofs.YtnaccgommclhaaaW.PrintMore Go.Proofs.YtnaccgommclhaaaV
attribute [local go_sem] max2_int min2_int max_two min_two max_three min_three max_four min_four   -- for this text's walks alone
set_option linter.unusedVariables false
set_option linter.unusedSimpArgs false
set_option maxHeartbeats 8000000
set_option maxRecDepth 100000

def spec_EdgesOf.l0 : Nat → Int → Int → Int → Int → Int → ByteArray → List Int → List Int → Int → Option (List Int × List Int × Int × Bool)
 | 0, _, _, _, _, _, _, _, _, _ => none
 | k + 1, x1, x2, x9, x136000, x136001, x136002, x139000, x139001, x139002 => if x9 < 8 then (if x2 > 0 then ((spec_DotAt.f k x136000 x136001 x136002 (wrap64 (x1 + x9)) (wrap64 (x2 - 1))).bind fun t140 => (if x139000.length < 17592186044416 then ((some (x139000 ++ [t140] : List Int)).bind fun y141 => (if x1 > 0 then ((spec_DotAt.f k x136000 x136001 x136002 (wrap64 (x1 - 1)) (wrap64 (x2 + x9))).bind fun t144 => (if x139001.length < 17592186044416 then (spec_EdgesOf.l0 k x1 x2 (wrap64 (x9 + 1)) x136000 x136001 x136002 y141 (x139001 ++ [t144]) x139002) else (none))) else (spec_EdgesOf.l0 k x1 x2 (wrap64 (x9 + 1)) x136000 x136001 x136002 y141 x139001 x139002))) else (none))) else (if x1 > 0 then ((spec_DotAt.f k x136000 x136001 x136002 (wrap64 (x1 - 1)) (wrap64 (x2 + x9))).bind fun t148 => (if x139001.length < 17592186044416 then (spec_EdgesOf.l0 k x1 x2 (wrap64 (x9 + 1)) x136000 x136001 x136002 x139000 (x139001 ++ [t148]) x139002) else (none))) else (spec_EdgesOf.l0 k x1 x2 (wrap64 (x9 + 1)) x136000 x136001 x136002 x139000 x139001 x139002))) else (if x1 > 0 then (if x2 > 0 then ((spec_DotAt.f k x136000 x136001 x136002 (wrap64 (x1 - 1)) (wrap64 (x2 - 1))).bind fun t139 => (some (x139000, x139001, t139, true))) else (some (x139000, x139001, x139002, true))) else (some (x139000, x139001, x139002, true)))
def spec_EdgesOf.f (k : Nat) (a0_0 : Int) (a0_1 : Int) (a0_2 : ByteArray) (a1 : Int) (a2 : Int) : Option (List Int × List Int × Int × Bool) := (spec_l13Fits.f a0_0 a0_1 a0_2 a1 a2).bind fun t137 => (if t137 = true then (spec_EdgesOf.l0 k a1 a2 0 a0_0 a0_1 a0_2 ([] : List Int) ([] : List Int) (-1)) else (some (([] : List Int), ([] : List Int), 0, false)))
def spec_EdgesOf.T8 : Bool × List (List Nat × List Nat) := (true, [([], []), ([0], [0]), ([], []), ([], []), ([], []), ([3, 4], [3, 4]), ([], []), ([6], [6]), ([2, 5, 7], [2, 5, 7]), ([8], [8]), ([1, 9, 8], [1, 9]), ([0, 1, 2, 3, 4, 5, 6, 7, 8, 9, 10], []), ([11, 10, 10, 0, 1, 2, 3, 4, 5, 6, 7, 8, 9, 10], [10, 11])])
def spec_EdgesOf.B8 : List Nat := [0, 1, 0, 0, 0, 24, 0, 64, 252, 508, 1023, 2047, 4095]
theorem spec_EdgesOf.tab8 : rtab .any (opsOf Try.f67 8) = spec_EdgesOf.T8 := by kernel_rfl
theorem spec_EdgesOf.bits8 : waitsOk spec_EdgesOf.T8.2 spec_EdgesOf.B8 = true := by kernel_rfl
def spec_EdgesOf.T10 : Bool × List (List Nat × List Nat) := (true, [([], []), ([0], [0]), ([], []), ([], []), ([3], [3]), ([], []), ([], []), ([5, 6], [5, 6]), ([2, 4, 7], [2, 4, 7]), ([8], [8]), ([1, 9, 8], [1, 9]), ([0, 1, 2, 3, 4, 5, 6, 7, 8, 9, 10], []), ([11, 10, 10, 0, 1, 2, 3, 4, 5, 6, 7, 8, 9, 10], [10, 11])])
def spec_EdgesOf.B10 : List Nat := [0, 1, 0, 0, 8, 0, 0, 96, 252, 508, 1023, 2047, 4095]
theorem spec_EdgesOf.tab10 : rtab .any (opsOf Try.f67 10) = spec_EdgesOf.T10 := by kernel_rfl
theorem spec_EdgesOf.bits10 : waitsOk spec_EdgesOf.T10.2 spec_EdgesOf.B10 = true := by kernel_rfl
theorem spec_EdgesOf.calls (k : Nat) (a0_0 : Int) (a0_1 : Int) (a0_2 : ByteArray) (a1 : Int) (a2 : Int) (r1 : List Int) (r2 : List Int) (r3 : Int) (r4 : Bool) (w : World) (h : spec_EdgesOf.f k a0_0 a0_1 a0_2 a1 a2 = some (r1, r2, r3, r4)) :
  Calls Try.prog 67 #[.agg #[.int .i64 a0_0, .int .i64 a0_1, .string a0_2], .int .i64 a1, .int .i64 a2] w fun e w' => ∃ v0_ v1_ : Value, e = .returned (.tuple #[.agg #[v0_, v1_, .int .i64 r3], .bool r4]) ∧ Kd.R (Kd.int .i64) 3 w' w.heap.size (fun k_ => some k_ ≠ (v1_ : Value).ownBlock) v0_ r1 ∧ Kd.R (Kd.int .i64) 3 w' w.heap.size (fun k_ => some k_ ≠ (v0_ : Value).ownBlock) v1_ r2 ∧ Below w.heap.size w w' := by
 have hu25 := Try.underlying25
 have hu101 := Try.underlying101
 have HB := Aside0.mk (Below.refl w.heap.size w)
 have H := h
 clear h
 unfold spec_EdgesOf.f at H
 replace H := bnd H
 obtain ⟨t137, A4, H⟩ := H
 by_cases c5 : t137 = true
 ·subst c5
  rw [if_pos rfl] at H
  have H' := Aside0.mk H
  clear H
  go_enter Try.func67, Try.ntmps67
  go_wp2_with (first | ((with_reducible refine gate_dst (N := 3) rfl ?_); refine bx 3 #[.int .i64 a0_0, .int .i64 a0_1, .string a0_2] 25 ?_; intro gb135 hg w6 BK135 hb; have GW135 := ge HB hg; have GE135 := ge HB hg; replace HB := bs HB hb; clear hb hg) | ((with_reducible refine gate_dst (N := 6) rfl ?_); refine bx 6 #[.slice none 0 0, .slice none 0 0, .int .i64 0] 101 ?_; intro gb136 hg w7 BK136 hb; have GW136 := ge HB hg; have GE136 := ge HB hg; have NB135_136 := n1 BK135 hg; have NB136_135 := n2 BK135 hg; replace BK135 := bb BK135 hb; replace HB := bs HB hb; clear hb hg; have hnb8 := NB135_136.out; have hnc8 := NB136_135.out; obtain ⟨hcz9_0, hcz9_1, hcz9_2, hfz9_0, hfz9_1, hfz9_2⟩ := cl3 BK135) | ((with_reducible refine gate_callee (f := 65) rfl ?_); refine gL (some 13) Try.func65 #[.agg #[.int .i64 a0_0, .int .i64 a0_1, .string a0_2], .int .i64 a1, .int .i64 a2] ?_; (with_reducible refine (spec_l13Fits.calls a0_0 a0_1 a0_2 a1 a2 true _ A4.out).mono ?_); rintro e w10 ⟨rfl, hb⟩; refine ⟨_, rfl, ?_⟩; replace BK135 := bb BK135 hb; replace BK136 := bb BK136 hb; replace HB := bs HB hb; (try clear hb)) | ((with_reducible refine gate_dst (N := 8) rfl ?_); refine bx 8 #[.slice none 0 0, .slice none 0 0, .int .i64 0] 101 ?_; intro gb138 hg w11 BK138 hb; have GW138 := ge HB hg; have GE138 := ge HB hg; have NB135_138 := n1 BK135 hg; have NB138_135 := n2 BK135 hg; have NB136_138 := n1 BK136 hg; have NB138_136 := n2 BK136 hg; replace BK135 := bb BK135 hb; replace BK136 := bb BK136 hb; replace HB := bs HB hb; clear hb hg; have hnb12 := NB138_135.out; have hnc12 := NB135_138.out; have hnb13 := NB138_136.out; have hnc13 := NB136_138.out; obtain ⟨hcz14_0, hcz14_1, hcz14_2, hfz14_0, hfz14_1, hfz14_2⟩ := cl3 BK138))
  go_loopg [9] k (fun kq v9 w' => ∃ (x9_1 : Int) (x139000_1 : List Int) (x139001_1 : List Int) (u139000 : Value) (u139001 : Value), v9 = .int .i64 x9_1 ∧ Aside0 (spec_EdgesOf.l0 kq a1 a2 x9_1 a0_0 a0_1 a0_2 x139000_1 x139001_1 (-1) = some (r1, r2, r3, r4)) ∧ Aside0 (kq ≤ k) ∧ Aside0 (Kd.R (Kd.int .i64) 3 w' w.heap.size (fun k_ => some k_ ≠ (u139001 : Value).ownBlock) u139000 x139000_1) ∧ Aside0 (Kd.R (Kd.int .i64) 3 w' w.heap.size (fun k_ => some k_ ≠ (u139000 : Value).ownBlock) u139001 x139001_1) ∧ Aside0 (w'.heap[gb135]? = some (.cells #[.int .i64 a0_0, .int .i64 a0_1, .string a0_2] 25 (0, 0))) ∧ Aside0 (w'.heap[gb136]? = some (.cells #[(.slice none 0 0), (.slice none 0 0), .int .i64 0] 101 (0, 0))) ∧ Aside0 (w'.heap[gb138]? = some (.cells #[u139000, u139001, .int .i64 (-1)] 101 (0, 0))) ∧ Aside0 (Below w.heap.size w w'))
  case atStart => exact ⟨(0), (([] : List Int)), (([] : List Int)), (.slice none 0 0), (.slice none 0 0), rv, H', ⟨Nat.le_refl _⟩, ⟨by first | exact Kd.R_nil _ _ _ _ _ | exact Kd.N_nil _ _ _ _ _ | exact Kd.V_nil _ _ _ _ _ | exact Kd.Q_nil _ _ _ _ _ | exact Kd.S_nil _ _ _ _ _⟩, ⟨by first | exact Kd.R_nil _ _ _ _ _ | exact Kd.N_nil _ _ _ _ _ | exact Kd.V_nil _ _ _ _ _ | exact Kd.Q_nil _ _ _ _ _ | exact Kd.S_nil _ _ _ _ _⟩, ⟨by (with_reducible repeat (first | refine blk_drewN ?_ _ | refine blk_drew ?_ | refine blk_alloc ?_ _)); refine blk_far ?_ NB135_138.out _; (with_reducible repeat (first | refine blk_drewN ?_ _ | refine blk_drew ?_ | refine blk_alloc ?_ _)); refine blk_far ?_ NB135_138.out _; (with_reducible repeat (first | refine blk_drewN ?_ _ | refine blk_drew ?_ | refine blk_alloc ?_ _)); refine blk_far ?_ NB135_138.out _; (with_reducible repeat (first | refine blk_drewN ?_ _ | refine blk_drew ?_ | refine blk_alloc ?_ _)); exact BK135.out⟩, ⟨by (with_reducible repeat (first | refine blk_drewN ?_ _ | refine blk_drew ?_ | refine blk_alloc ?_ _)); refine blk_far ?_ NB136_138.out _; (with_reducible repeat (first | refine blk_drewN ?_ _ | refine blk_drew ?_ | refine blk_alloc ?_ _)); refine blk_far ?_ NB136_138.out _; (with_reducible repeat (first | refine blk_drewN ?_ _ | refine blk_drew ?_ | refine blk_alloc ?_ _)); refine blk_far ?_ NB136_138.out _; (with_reducible repeat (first | refine blk_drewN ?_ _ | refine blk_drew ?_ | refine blk_alloc ?_ _)); exact BK136.out⟩, ⟨by (with_reducible repeat (first | refine blk_drewN ?_ _ | refine blk_drew ?_ | refine blk_alloc ?_ _)); refine blk_put (cs := #[.slice none 0 0, .slice none 0 0, .int .i64 0]) ?_ 2 _ rfl; (with_reducible repeat (first | refine blk_drewN ?_ _ | refine blk_drew ?_ | refine blk_alloc ?_ _)); refine blk_put (cs := #[.slice none 0 0, .slice none 0 0, .int .i64 0]) ?_ 1 _ rfl; (with_reducible repeat (first | refine blk_drewN ?_ _ | refine blk_drew ?_ | refine blk_alloc ?_ _)); refine blk_put (cs := #[.slice none 0 0, .slice none 0 0, .int .i64 0]) ?_ 0 _ rfl; (with_reducible repeat (first | refine blk_drewN ?_ _ | refine blk_drew ?_ | refine blk_alloc ?_ _)); exact BK138.out⟩, bh HB⟩
  case round =>
   clear H'
   try clear hcz14_0 hcz14_1 hcz14_2 hfz14_0 hfz14_1 hfz14_2
   try clear hcz9_0 hcz9_1 hcz9_2 hfz9_0 hfz9_1 hfz9_2
   obtain ⟨x9_1, x139000_1, x139001_1, u139000, u139001, rfl, HA, HK1, HO_139000, HO_139001, BK135, BK136, BK138, HB⟩ := hrel
   cases gk with
   | zero => exact absurd HA.out (by simp [spec_EdgesOf.l0])
   | succ k1 =>
    have H := HA.out
    clear HA
    simp only [spec_EdgesOf.l0] at H
    by_cases c15 : x9_1 < 8
    ·rw [if_pos c15] at H
     have c15b0 := decide_eq_true c15
     clear c15
     by_cases c16 : a2 > 0
     ·rw [if_pos c16] at H
      have c16b0 : decide (0 < a2) = true := decide_eq_true c16
      clear c16
      replace H := bnd H
      obtain ⟨t140, A17, H⟩ := H
      by_cases c18 : x139000_1.length < 17592186044416
      ·rw [if_pos c18] at H
       have LMc18 := Aside0.mk c18
       clear c18
       replace H := yl H
       obtain ⟨y141, Ny141, H⟩ := H
       by_cases c19 : a1 > 0
       ·rw [if_pos c19] at H
        have c19b0 : decide (0 < a1) = true := decide_eq_true c19
        clear c19
        replace H := bnd H
        obtain ⟨t144, A20, H⟩ := H
        by_cases c21 : x139001_1.length < 17592186044416
        ·rw [if_pos c21] at H
         have LMc21 := Aside0.mk c21
         clear c21
         obtain ⟨y145, hy145⟩ : ∃ y_ : List Int, y_ = (x139001_1 ++ [t144]) := ⟨_, rfl⟩
         replace H : (spec_EdgesOf.l0 k1 a1 a2 (wrap64 (x9_1 + 1)) a0_0 a0_1 a0_2 y141 y145 (-1)) = some (r1, r2, r3, r4) := by subst hy145; exact H
         have Ny145 := Aside0.mk hy145
         clear hy145
         have H' := Aside0.mk H
         clear H
         try go_wp2
         replace HO_139000 := Aside0.mk (Kd.R_drew HO_139000.out)
         replace HO_139001 := Aside0.mk (Kd.R_drew HO_139001.out)
         replace BK135 := Aside0.mk (blk_drew BK135.out)
         replace BK136 := Aside0.mk (blk_drew BK136.out)
         replace BK138 := Aside0.mk (blk_drew BK138.out)
         replace HB := Aside0.mk (below_drew1 HB.out)
         refine start_ (n := 13) (S := fun w' => w'.cell? ⟨gb138, 0, none⟩ = some (u139000) ∧ w'.cell? ⟨gb138, 1, none⟩ = some (u139001) ∧ w'.cell? ⟨gb138, 2, none⟩ = some (.int .i64 (-1)) ∧ w'.cell? ⟨gb135, 0, none⟩ = some (.int .i64 a0_0) ∧ w'.cell? ⟨gb135, 1, none⟩ = some (.int .i64 a0_1) ∧ w'.cell? ⟨gb135, 2, none⟩ = some (.string a0_2)) (ds := [12]) (ba 13 0) (by kernel_rfl) rfl rfl ⟨bc BK138 0, bc BK138 1, bc BK138 2, bc BK135 0, bc BK135 1, bc BK135 2⟩ (fun hHeld => ?_); refine with_tabW spec_EdgesOf.tab8 spec_EdgesOf.bits8 (fun HT_ HW_ => ?_)
         generalize wr.drew = w22 at HO_139000 HO_139001 BK135 BK136 BK138 HB hHeld ⊢
         refine pu 0 23 (ba 13 1) ?_
         refine pu 3 26 (ba 13 9) ?_
         refine pu 4 27 (ba 13 25) ?_
         refine pu 5 28 (ba 13 57) ?_
         refine pu 6 29 (ba 13 121) ?_
         refine pu 7 30 (ba 13 249) ?_
         refine tk 1 24 (ba 13 251) hHeld ?_
         refine tk 2 25 (ba 13 255) hHeld ?_
         refine on 8 31 (ba 13 511) (fun K hK => ?_)
         refine gS Try.func87 #[.agg #[.int .i64 a0_0, .int .i64 a0_1, .string a0_2], .int .i64 (wrap64 (a1 + x9_1)), .int .i64 (wrap64 (a2 - 1))] ?_
         with_reducible refine (spec_DotAt.calls k1 a0_0 a0_1 a0_2 (wrap64 (a1 + x9_1)) (wrap64 (a2 - 1)) t140 _ A17.out).mono ?_
         rintro e w23 ⟨rfl, hb⟩
         refine ⟨_, rfl, ?_⟩
         replace HO_139000 := Aside0.mk (Kd.R_below (ro HO_139000.out) hb)
         replace HO_139001 := Aside0.mk (Kd.R_below (ro HO_139001.out) hb)
         replace BK135 := bb BK135 hb
         replace BK136 := bb BK136 hb
         replace BK138 := bb BK138 hb
         replace HB := bs HB hb
         (try clear hb)
         (try clear hb2)
         (try clear hk)
         (try clear hi)
         refine hK.out _ _ ⟨bc BK138 0, bc BK138 1, bc BK138 2, bc BK135 0, bc BK135 1, bc BK135 2⟩ (fun hHeld => ?_)
         clear hK K
         refine nm ?_
         refine on 9 32 (ba 13 1023) (fun K hK => ?_)
         refine value_ (w1 := ?_) (v := ?_) (by rfl) rfl ?_ ?_
         rotate_left 2
         ·go_simp
          constructor
          ·rfl
          ·rfl
         refine hK.out _ _ ⟨(blk_cell (blk_alloc BK138.out _) 0).trans rfl, (blk_cell (blk_alloc BK138.out _) 1).trans rfl, (blk_cell (blk_alloc BK138.out _) 2).trans rfl, (blk_cell (blk_alloc BK135.out _) 0).trans rfl, (blk_cell (blk_alloc BK135.out _) 1).trans rfl, (blk_cell (blk_alloc BK135.out _) 2).trans rfl⟩ (fun hHeld => ?_)
         clear hK K
         refine nm ?_
         refine on 10 33 (ba 13 2047) (fun K hK => ?_)
         refine Kd.R_append_step (Kd.int .i64) (w0 := w) w.heap.size (by rfl) (.tmp 24) (.tmp 32) 35 3 (.int .i64 0) 8 rfl Try.underlying35 info3 rfl (by decide) (by omega) u139000 x139000_1 t140 [.int .i64 t140] (fun k_ => some k_ ≠ (u139001 : Value).ownBlock) (fun _ => False) rfl rfl ?aP (fun _ hk => hk.elim) ?aF ?aO ?aB ?aS ?aL ?_
         (case aP => exact rfl)
         (case aB => exact (bo HB))
         (case aF => exact (fun k_ hk => Kd.fresh' (Kd.R_lt (ro HO_139001.out)) k_ hk))
         (case aO => exact (ro HO_139000.out))
         (case aS => exact (below_size (bo HB)))
         (case aL => have := LMc18.out; omega)
         intro v142 w24 ho hb hg hat
         rw [← Ny141.out] at ho
         have HO143 := Aside0.mk (ho)
         replace HO_139001 := Aside0.mk (Kd.R_after (ok := (fun _ => True)) (ro (Kd.R_mono HO_139001.out (fun _ hk => ⟨trivial, hk⟩))) hg hat)
         replace BK135 := Aside0.mk (blk_grown (bt BK135) hg (Kd.R_ne HO_139000.out BK135.out (by decide)))
         replace BK136 := Aside0.mk (blk_grown (bt BK136) hg (Kd.R_ne HO_139000.out BK136.out (by decide)))
         replace BK138 := Aside0.mk (blk_grown (bt BK138) hg (Kd.R_ne HO_139000.out BK138.out (by decide)))
         replace HB := Aside0.mk (hb)
         clear HO_139000
         clear ho hb hg hat
         obtain ⟨Ao25, co25, eo25⟩ := Kd.R_slice HO143.out
         (first | subst eo25 | (injection eo25 with f1_ f2_ f3_; have f4_ := f1_.symm; have f5_ := f3_.symm; clear f1_ f2_ f3_; subst f4_; subst f5_))
         refine hK.out _ _ ⟨bc BK138 0, bc BK138 1, bc BK138 2, bc BK135 0, bc BK135 1, bc BK135 2⟩ (fun hHeld => ?_)
         clear hK K
         refine nm ?_
         refine pu 11 34 (ba 13 4095) ?_
         refine last_ (i := 12) (N := none) (ba 13 8191) rfl rfl (one_of HT_.out (by kernel_rfl)) (by decide) (fun K hK => ?_)
         have hs26 : w24.cell? ⟨gb138, 0, none⟩ = some (u139000) := bc BK138 0
         have hfs26 := blk_frozen BK138.out 0
         have hns26_0 := NB135_138.out
         have hns26_1 := NB136_138.out
         have hms26_0 := NB138_135.out
         have hms26_1 := NB138_136.out
         refine skip_ (w1 := ?_) (by rfl) rfl ?_ ?_
         rotate_left
         ·go_simp
          rfl
         refine hK.out _ _ ?_
         clear hK K
         refine done_ (done_of HT_.out (by kernel_rfl)) ?_
         try go_wp2
         have n0_ : Aside0 (Kd.R (Kd.int .i64) 3 (w24.setCell ⟨gb138, 0, none⟩ (.slice Ao25 y141.length co25)) w.heap.size (fun k_ => some k_ ≠ (.slice Ao25 y141.length co25 : Value).ownBlock) u139001 x139001_1) := (ra (Kd.R_mono (Kd.R_far (p := ⟨gb138, 0, none⟩) (Kd.R_types HO_139001.out BK138.out (by decide)) (fun _ hk => hk.2) (.slice Ao25 y141.length co25)) (fun _ hk => hk.1.2)))
         have n1_ : Aside0 (Kd.R (Kd.int .i64) 3 (w24.setCell ⟨gb138, 0, none⟩ (.slice Ao25 y141.length co25)) w.heap.size (fun k_ => some k_ ≠ (u139001 : Value).ownBlock) (.slice Ao25 y141.length co25) y141) := (ra (Kd.R_mono (Kd.R_far (p := ⟨gb138, 0, none⟩) (Kd.R_types HO143.out BK138.out (by decide)) (fun _ hk => hk.2) (.slice Ao25 y141.length co25)) (fun _ hk => hk.1)))
         have n2_ : Aside0 ((w24.setCell ⟨gb138, 0, none⟩ (.slice Ao25 y141.length co25)).heap[gb135]? = some (.cells #[.int .i64 a0_0, .int .i64 a0_1, .string a0_2] 25 (0, 0))) := ⟨by (with_reducible repeat (first | refine blk_drewN ?_ _ | refine blk_drew ?_ | refine blk_alloc ?_ _)); refine blk_far ?_ NB135_138.out _; (with_reducible repeat (first | refine blk_drewN ?_ _ | refine blk_drew ?_ | refine blk_alloc ?_ _)); exact BK135.out⟩
         have n3_ : Aside0 ((w24.setCell ⟨gb138, 0, none⟩ (.slice Ao25 y141.length co25)).heap[gb136]? = some (.cells #[.slice none 0 0, .slice none 0 0, .int .i64 0] 101 (0, 0))) := ⟨by (with_reducible repeat (first | refine blk_drewN ?_ _ | refine blk_drew ?_ | refine blk_alloc ?_ _)); refine blk_far ?_ NB136_138.out _; (with_reducible repeat (first | refine blk_drewN ?_ _ | refine blk_drew ?_ | refine blk_alloc ?_ _)); exact BK136.out⟩
         have n4_ : Aside0 ((w24.setCell ⟨gb138, 0, none⟩ (.slice Ao25 y141.length co25)).heap[gb138]? = some (.cells #[.slice Ao25 y141.length co25, u139001, .int .i64 (-1)] 101 (0, 0))) := ⟨by (with_reducible repeat (first | refine blk_drewN ?_ _ | refine blk_drew ?_ | refine blk_alloc ?_ _)); refine blk_put (cs := #[u139000, u139001, .int .i64 (-1)]) ?_ 0 _ rfl; (with_reducible repeat (first | refine blk_drewN ?_ _ | refine blk_drew ?_ | refine blk_alloc ?_ _)); exact BK138.out⟩
         have n5_ : Aside0 (Below w.heap.size w (w24.setCell ⟨gb138, 0, none⟩ (.slice Ao25 y141.length co25))) := bh HB
         (try clear HO_139001)
         (try clear HO143)
         (try clear BK135)
         (try clear BK136)
         (try clear BK138)
         (try clear HB)
         generalize (w24.setCell ⟨gb138, 0, none⟩ (.slice Ao25 y141.length co25)) = w27 at n0_ n1_ n2_ n3_ n4_ n5_ ⊢
         have HO_139001 := n0_
         have HO143 := n1_
         have BK135 := n2_
         have BK136 := n3_
         have BK138 := n4_
         have HB := n5_
         clear n0_ n1_ n2_ n3_ n4_ n5_
         replace HO_139001 := Aside0.mk (Kd.R_drew HO_139001.out)
         replace HO143 := Aside0.mk (Kd.R_drew HO143.out)
         replace BK135 := Aside0.mk (blk_drew BK135.out)
         replace BK136 := Aside0.mk (blk_drew BK136.out)
         replace BK138 := Aside0.mk (blk_drew BK138.out)
         replace HB := Aside0.mk (below_drew1 HB.out)
         refine start_ (n := 13) (S := fun w' => w'.cell? ⟨gb138, 0, none⟩ = some (.slice Ao25 y141.length co25) ∧ w'.cell? ⟨gb138, 1, none⟩ = some (u139001) ∧ w'.cell? ⟨gb138, 2, none⟩ = some (.int .i64 (-1)) ∧ w'.cell? ⟨gb135, 0, none⟩ = some (.int .i64 a0_0) ∧ w'.cell? ⟨gb135, 1, none⟩ = some (.int .i64 a0_1) ∧ w'.cell? ⟨gb135, 2, none⟩ = some (.string a0_2)) (ds := [12]) (ba 13 0) (by kernel_rfl) rfl rfl ⟨bc BK138 0, bc BK138 1, bc BK138 2, bc BK135 0, bc BK135 1, bc BK135 2⟩ (fun hHeld => ?_); refine with_tabW spec_EdgesOf.tab10 spec_EdgesOf.bits10 (fun HT_ HW_ => ?_)
         generalize w27.drew = w28 at HO_139001 HO143 BK135 BK136 BK138 HB hHeld ⊢
         refine pu 0 37 (ba 13 1) ?_
         refine pu 3 40 (ba 13 9) ?_
         refine pu 4 41 (ba 13 25) ?_
         refine pu 5 42 (ba 13 57) ?_
         refine pu 6 43 (ba 13 121) ?_
         refine pu 7 44 (ba 13 249) ?_
         refine tk 1 38 (ba 13 251) hHeld ?_
         refine tk 2 39 (ba 13 255) hHeld ?_
         refine on 8 45 (ba 13 511) (fun K hK => ?_)
         refine gS Try.func87 #[.agg #[.int .i64 a0_0, .int .i64 a0_1, .string a0_2], .int .i64 (wrap64 (a1 - 1)), .int .i64 (wrap64 (a2 + x9_1))] ?_
         with_reducible refine (spec_DotAt.calls k1 a0_0 a0_1 a0_2 (wrap64 (a1 - 1)) (wrap64 (a2 + x9_1)) t144 _ A20.out).mono ?_
         rintro e w29 ⟨rfl, hb⟩
         refine ⟨_, rfl, ?_⟩
         replace HO_139001 := Aside0.mk (Kd.R_below (ro HO_139001.out) hb)
         replace HO143 := Aside0.mk (Kd.R_below (ro HO143.out) hb)
         replace BK135 := bb BK135 hb
         replace BK136 := bb BK136 hb
         replace BK138 := bb BK138 hb
         replace HB := bs HB hb
         (try clear hb)
         (try clear hb2)
         (try clear hk)
         (try clear hi)
         refine hK.out _ _ ⟨bc BK138 0, bc BK138 1, bc BK138 2, bc BK135 0, bc BK135 1, bc BK135 2⟩ (fun hHeld => ?_)
         clear hK K
         refine nm ?_
         refine on 9 46 (ba 13 1023) (fun K hK => ?_)
         refine value_ (w1 := ?_) (v := ?_) (by rfl) rfl ?_ ?_
         rotate_left 2
         ·go_simp
          constructor
          ·rfl
          ·rfl
         refine hK.out _ _ ⟨(blk_cell (blk_alloc BK138.out _) 0).trans rfl, (blk_cell (blk_alloc BK138.out _) 1).trans rfl, (blk_cell (blk_alloc BK138.out _) 2).trans rfl, (blk_cell (blk_alloc BK135.out _) 0).trans rfl, (blk_cell (blk_alloc BK135.out _) 1).trans rfl, (blk_cell (blk_alloc BK135.out _) 2).trans rfl⟩ (fun hHeld => ?_)
         clear hK K
         refine nm ?_
         refine on 10 47 (ba 13 2047) (fun K hK => ?_)
         refine Kd.R_append_step (Kd.int .i64) (w0 := w) w.heap.size (by rfl) (.tmp 38) (.tmp 46) 35 3 (.int .i64 0) 8 rfl Try.underlying35 info3 rfl (by decide) (by omega) u139001 x139001_1 t144 [.int .i64 t144] (fun k_ => some k_ ≠ (.slice Ao25 y141.length co25 : Value).ownBlock) (fun _ => False) rfl rfl ?aP (fun _ hk => hk.elim) ?aF ?aO ?aB ?aS ?aL ?_
         (case aP => exact rfl)
         (case aB => exact (bo HB))
         (case aF => exact (fun k_ hk => Kd.fresh' (Kd.R_lt (ro HO143.out)) k_ hk))
         (case aO => exact (ro HO_139001.out))
         (case aS => exact (below_size (bo HB)))
         (case aL => have := LMc21.out; omega)
         intro v146 w30 ho hb hg hat
         rw [← Ny145.out] at ho
         have HO147 := Aside0.mk (ho)
         replace BK135 := Aside0.mk (blk_grown (bt BK135) hg (Kd.R_ne HO_139001.out BK135.out (by decide)))
         replace BK136 := Aside0.mk (blk_grown (bt BK136) hg (Kd.R_ne HO_139001.out BK136.out (by decide)))
         replace BK138 := Aside0.mk (blk_grown (bt BK138) hg (Kd.R_ne HO_139001.out BK138.out (by decide)))
         replace HO143 := Aside0.mk (Kd.R_after (ok := (fun _ => True)) (ro (Kd.R_mono HO143.out (fun _ hk => ⟨trivial, hk⟩))) hg hat)
         replace HB := Aside0.mk (hb)
         clear HO_139001
         clear ho hb hg hat
         obtain ⟨Ao31, co31, eo31⟩ := Kd.R_slice HO147.out
         (first | subst eo31 | (injection eo31 with f1_ f2_ f3_; have f4_ := f1_.symm; have f5_ := f3_.symm; clear f1_ f2_ f3_; subst f4_; subst f5_))
         refine hK.out _ _ ⟨bc BK138 0, bc BK138 1, bc BK138 2, bc BK135 0, bc BK135 1, bc BK135 2⟩ (fun hHeld => ?_)
         clear hK K
         refine nm ?_
         refine pu 11 48 (ba 13 4095) ?_
         refine last_ (i := 12) (N := none) (ba 13 8191) rfl rfl (one_of HT_.out (by kernel_rfl)) (by decide) (fun K hK => ?_)
         have hs32 : w30.cell? ⟨gb138, 1, none⟩ = some (u139001) := bc BK138 1
         have hfs32 := blk_frozen BK138.out 1
         have hns32_0 := NB135_138.out
         have hns32_1 := NB136_138.out
         have hms32_0 := NB138_135.out
         have hms32_1 := NB138_136.out
         refine skip_ (w1 := ?_) (by rfl) rfl ?_ ?_
         rotate_left
         ·go_simp
          rfl
         refine hK.out _ _ ?_
         clear hK K
         refine done_ (done_of HT_.out (by kernel_rfl)) ?_
         try go_wp2
         go_roundg k1
         case measure => have := HK1.out; omega
         case rel => exact ⟨(wrap64 (x9_1 + 1)), (y141), (y145), (.slice Ao25 y141.length co25), (.slice Ao31 y145.length co31), rv, H', ⟨by have := HK1.out; omega⟩, (ra (Kd.R_mono (Kd.R_far (p := ⟨gb138, 1, none⟩) (Kd.R_types HO143.out BK138.out (by decide)) (fun _ hk => hk.2) (.slice Ao31 y145.length co31)) (fun _ hk => hk.1.2))), (ra (Kd.R_mono (Kd.R_far (p := ⟨gb138, 1, none⟩) (Kd.R_types HO147.out BK138.out (by decide)) (fun _ hk => hk.2) (.slice Ao31 y145.length co31)) (fun _ hk => hk.1))), ⟨by (with_reducible repeat (first | refine blk_drewN ?_ _ | refine blk_drew ?_ | refine blk_alloc ?_ _)); refine blk_far ?_ NB135_138.out _; (with_reducible repeat (first | refine blk_drewN ?_ _ | refine blk_drew ?_ | refine blk_alloc ?_ _)); exact BK135.out⟩, ⟨by (with_reducible repeat (first | refine blk_drewN ?_ _ | refine blk_drew ?_ | refine blk_alloc ?_ _)); refine blk_far ?_ NB136_138.out _; (with_reducible repeat (first | refine blk_drewN ?_ _ | refine blk_drew ?_ | refine blk_alloc ?_ _)); exact BK136.out⟩, ⟨by (with_reducible repeat (first | refine blk_drewN ?_ _ | refine blk_drew ?_ | refine blk_alloc ?_ _)); refine blk_put (cs := #[.slice Ao25 y141.length co25, u139001, .int .i64 (-1)]) ?_ 1 _ rfl; (with_reducible repeat (first | refine blk_drewN ?_ _ | refine blk_drew ?_ | refine blk_alloc ?_ _)); exact BK138.out⟩, bh HB⟩
        ·rw [if_neg c21] at H
         exact absurd H (by simp)
       ·rw [if_neg c19] at H
        have c19b0 : decide (0 < a1) = false := decide_eq_false c19
        clear c19
        have H' := Aside0.mk H
        clear H
        try go_wp2
        replace HO_139000 := Aside0.mk (Kd.R_drew HO_139000.out)
        replace HO_139001 := Aside0.mk (Kd.R_drew HO_139001.out)
        replace BK135 := Aside0.mk (blk_drew BK135.out)
        replace BK136 := Aside0.mk (blk_drew BK136.out)
        replace BK138 := Aside0.mk (blk_drew BK138.out)
        replace HB := Aside0.mk (below_drew1 HB.out)
        refine start_ (n := 13) (S := fun w' => w'.cell? ⟨gb138, 0, none⟩ = some (u139000) ∧ w'.cell? ⟨gb138, 1, none⟩ = some (u139001) ∧ w'.cell? ⟨gb138, 2, none⟩ = some (.int .i64 (-1)) ∧ w'.cell? ⟨gb135, 0, none⟩ = some (.int .i64 a0_0) ∧ w'.cell? ⟨gb135, 1, none⟩ = some (.int .i64 a0_1) ∧ w'.cell? ⟨gb135, 2, none⟩ = some (.string a0_2)) (ds := [12]) (ba 13 0) (by kernel_rfl) rfl rfl ⟨bc BK138 0, bc BK138 1, bc BK138 2, bc BK135 0, bc BK135 1, bc BK135 2⟩ (fun hHeld => ?_); refine with_tabW spec_EdgesOf.tab8 spec_EdgesOf.bits8 (fun HT_ HW_ => ?_)
        generalize wr.drew = w33 at HO_139000 HO_139001 BK135 BK136 BK138 HB hHeld ⊢
        refine pu 0 23 (ba 13 1) ?_
        refine pu 3 26 (ba 13 9) ?_
        refine pu 4 27 (ba 13 25) ?_
        refine pu 5 28 (ba 13 57) ?_
        refine pu 6 29 (ba 13 121) ?_
        refine pu 7 30 (ba 13 249) ?_
        refine tk 1 24 (ba 13 251) hHeld ?_
        refine tk 2 25 (ba 13 255) hHeld ?_
        refine on 8 31 (ba 13 511) (fun K hK => ?_)
        refine gS Try.func87 #[.agg #[.int .i64 a0_0, .int .i64 a0_1, .string a0_2], .int .i64 (wrap64 (a1 + x9_1)), .int .i64 (wrap64 (a2 - 1))] ?_
        with_reducible refine (spec_DotAt.calls k1 a0_0 a0_1 a0_2 (wrap64 (a1 + x9_1)) (wrap64 (a2 - 1)) t140 _ A17.out).mono ?_
        rintro e w34 ⟨rfl, hb⟩
        refine ⟨_, rfl, ?_⟩
        replace HO_139000 := Aside0.mk (Kd.R_below (ro HO_139000.out) hb)
        replace HO_139001 := Aside0.mk (Kd.R_below (ro HO_139001.out) hb)
        replace BK135 := bb BK135 hb
        replace BK136 := bb BK136 hb
        replace BK138 := bb BK138 hb
        replace HB := bs HB hb
        (try clear hb)
        (try clear hb2)
        (try clear hk)
        (try clear hi)
        refine hK.out _ _ ⟨bc BK138 0, bc BK138 1, bc BK138 2, bc BK135 0, bc BK135 1, bc BK135 2⟩ (fun hHeld => ?_)
        clear hK K
        refine nm ?_
        refine on 9 32 (ba 13 1023) (fun K hK => ?_)
        refine value_ (w1 := ?_) (v := ?_) (by rfl) rfl ?_ ?_
        rotate_left 2
        ·go_simp
         constructor
         ·rfl
         ·rfl
        refine hK.out _ _ ⟨(blk_cell (blk_alloc BK138.out _) 0).trans rfl, (blk_cell (blk_alloc BK138.out _) 1).trans rfl, (blk_cell (blk_alloc BK138.out _) 2).trans rfl, (blk_cell (blk_alloc BK135.out _) 0).trans rfl, (blk_cell (blk_alloc BK135.out _) 1).trans rfl, (blk_cell (blk_alloc BK135.out _) 2).trans rfl⟩ (fun hHeld => ?_)
        clear hK K
        refine nm ?_
        refine on 10 33 (ba 13 2047) (fun K hK => ?_)
        refine Kd.R_append_step (Kd.int .i64) (w0 := w) w.heap.size (by rfl) (.tmp 24) (.tmp 32) 35 3 (.int .i64 0) 8 rfl Try.underlying35 info3 rfl (by decide) (by omega) u139000 x139000_1 t140 [.int .i64 t140] (fun k_ => some k_ ≠ (u139001 : Value).ownBlock) (fun _ => False) rfl rfl ?aP (fun _ hk => hk.elim) ?aF ?aO ?aB ?aS ?aL ?_
        (case aP => exact rfl)
        (case aB => exact (bo HB))
        (case aF => exact (fun k_ hk => Kd.fresh' (Kd.R_lt (ro HO_139001.out)) k_ hk))
        (case aO => exact (ro HO_139000.out))
        (case aS => exact (below_size (bo HB)))
        (case aL => have := LMc18.out; omega)
        intro v142 w35 ho hb hg hat
        rw [← Ny141.out] at ho
        have HO143 := Aside0.mk (ho)
        replace HO_139001 := Aside0.mk (Kd.R_after (ok := (fun _ => True)) (ro (Kd.R_mono HO_139001.out (fun _ hk => ⟨trivial, hk⟩))) hg hat)
        replace BK135 := Aside0.mk (blk_grown (bt BK135) hg (Kd.R_ne HO_139000.out BK135.out (by decide)))
        replace BK136 := Aside0.mk (blk_grown (bt BK136) hg (Kd.R_ne HO_139000.out BK136.out (by decide)))
        replace BK138 := Aside0.mk (blk_grown (bt BK138) hg (Kd.R_ne HO_139000.out BK138.out (by decide)))
        replace HB := Aside0.mk (hb)
        clear HO_139000
        clear ho hb hg hat
        obtain ⟨Ao36, co36, eo36⟩ := Kd.R_slice HO143.out
        (first | subst eo36 | (injection eo36 with f1_ f2_ f3_; have f4_ := f1_.symm; have f5_ := f3_.symm; clear f1_ f2_ f3_; subst f4_; subst f5_))
        refine hK.out _ _ ⟨bc BK138 0, bc BK138 1, bc BK138 2, bc BK135 0, bc BK135 1, bc BK135 2⟩ (fun hHeld => ?_)
        clear hK K
        refine nm ?_
        refine pu 11 34 (ba 13 4095) ?_
        refine last_ (i := 12) (N := none) (ba 13 8191) rfl rfl (one_of HT_.out (by kernel_rfl)) (by decide) (fun K hK => ?_)
        have hs37 : w35.cell? ⟨gb138, 0, none⟩ = some (u139000) := bc BK138 0
        have hfs37 := blk_frozen BK138.out 0
        have hns37_0 := NB135_138.out
        have hns37_1 := NB136_138.out
        have hms37_0 := NB138_135.out
        have hms37_1 := NB138_136.out
        refine skip_ (w1 := ?_) (by rfl) rfl ?_ ?_
        rotate_left
        ·go_simp
         rfl
        refine hK.out _ _ ?_
        clear hK K
        refine done_ (done_of HT_.out (by kernel_rfl)) ?_
        try go_wp2
        go_roundg k1
        case measure => have := HK1.out; omega
        case rel => exact ⟨(wrap64 (x9_1 + 1)), (y141), (x139001_1), (.slice Ao36 y141.length co36), (u139001), rv, H', ⟨by have := HK1.out; omega⟩, (ra (Kd.R_mono (Kd.R_far (p := ⟨gb138, 0, none⟩) (Kd.R_types HO143.out BK138.out (by decide)) (fun _ hk => hk.2) (.slice Ao36 y141.length co36)) (fun _ hk => hk.1))), (ra (Kd.R_mono (Kd.R_far (p := ⟨gb138, 0, none⟩) (Kd.R_types HO_139001.out BK138.out (by decide)) (fun _ hk => hk.2) (.slice Ao36 y141.length co36)) (fun _ hk => hk.1.2))), ⟨by (with_reducible repeat (first | refine blk_drewN ?_ _ | refine blk_drew ?_ | refine blk_alloc ?_ _)); refine blk_far ?_ NB135_138.out _; (with_reducible repeat (first | refine blk_drewN ?_ _ | refine blk_drew ?_ | refine blk_alloc ?_ _)); exact BK135.out⟩, ⟨by (with_reducible repeat (first | refine blk_drewN ?_ _ | refine blk_drew ?_ | refine blk_alloc ?_ _)); refine blk_far ?_ NB136_138.out _; (with_reducible repeat (first | refine blk_drewN ?_ _ | refine blk_drew ?_ | refine blk_alloc ?_ _)); exact BK136.out⟩, ⟨by (with_reducible repeat (first | refine blk_drewN ?_ _ | refine blk_drew ?_ | refine blk_alloc ?_ _)); refine blk_put (cs := #[u139000, u139001, .int .i64 (-1)]) ?_ 0 _ rfl; (with_reducible repeat (first | refine blk_drewN ?_ _ | refine blk_drew ?_ | refine blk_alloc ?_ _)); exact BK138.out⟩, bh HB⟩
      ·rw [if_neg c18] at H
       exact absurd H (by simp)
     ·rw [if_neg c16] at H
      have c16b0 : decide (0 < a2) = false := decide_eq_false c16
      clear c16
      by_cases c38 : a1 > 0
      ·rw [if_pos c38] at H
       have c38b0 : decide (0 < a1) = true := decide_eq_true c38
       clear c38
       replace H := bnd H
       obtain ⟨t148, A39, H⟩ := H
       by_cases c40 : x139001_1.length < 17592186044416
       ·rw [if_pos c40] at H
        have LMc40 := Aside0.mk c40
        clear c40
        obtain ⟨y149, hy149⟩ : ∃ y_ : List Int, y_ = (x139001_1 ++ [t148]) := ⟨_, rfl⟩
        replace H : (spec_EdgesOf.l0 k1 a1 a2 (wrap64 (x9_1 + 1)) a0_0 a0_1 a0_2 x139000_1 y149 (-1)) = some (r1, r2, r3, r4) := by subst hy149; exact H
        have Ny149 := Aside0.mk hy149
        clear hy149
        have H' := Aside0.mk H
        clear H
        try go_wp2
        replace HO_139000 := Aside0.mk (Kd.R_drew HO_139000.out)
        replace HO_139001 := Aside0.mk (Kd.R_drew HO_139001.out)
        replace BK135 := Aside0.mk (blk_drew BK135.out)
        replace BK136 := Aside0.mk (blk_drew BK136.out)
        replace BK138 := Aside0.mk (blk_drew BK138.out)
        replace HB := Aside0.mk (below_drew1 HB.out)
        refine start_ (n := 13) (S := fun w' => w'.cell? ⟨gb138, 0, none⟩ = some (u139000) ∧ w'.cell? ⟨gb138, 1, none⟩ = some (u139001) ∧ w'.cell? ⟨gb138, 2, none⟩ = some (.int .i64 (-1)) ∧ w'.cell? ⟨gb135, 0, none⟩ = some (.int .i64 a0_0) ∧ w'.cell? ⟨gb135, 1, none⟩ = some (.int .i64 a0_1) ∧ w'.cell? ⟨gb135, 2, none⟩ = some (.string a0_2)) (ds := [12]) (ba 13 0) (by kernel_rfl) rfl rfl ⟨bc BK138 0, bc BK138 1, bc BK138 2, bc BK135 0, bc BK135 1, bc BK135 2⟩ (fun hHeld => ?_); refine with_tabW spec_EdgesOf.tab10 spec_EdgesOf.bits10 (fun HT_ HW_ => ?_)
        generalize wr.drew = w41 at HO_139000 HO_139001 BK135 BK136 BK138 HB hHeld ⊢
        refine pu 0 37 (ba 13 1) ?_
        refine pu 3 40 (ba 13 9) ?_
        refine pu 4 41 (ba 13 25) ?_
        refine pu 5 42 (ba 13 57) ?_
        refine pu 6 43 (ba 13 121) ?_
        refine pu 7 44 (ba 13 249) ?_
        refine tk 1 38 (ba 13 251) hHeld ?_
        refine tk 2 39 (ba 13 255) hHeld ?_
        refine on 8 45 (ba 13 511) (fun K hK => ?_)
        refine gS Try.func87 #[.agg #[.int .i64 a0_0, .int .i64 a0_1, .string a0_2], .int .i64 (wrap64 (a1 - 1)), .int .i64 (wrap64 (a2 + x9_1))] ?_
        with_reducible refine (spec_DotAt.calls k1 a0_0 a0_1 a0_2 (wrap64 (a1 - 1)) (wrap64 (a2 + x9_1)) t148 _ A39.out).mono ?_
        rintro e w42 ⟨rfl, hb⟩
        refine ⟨_, rfl, ?_⟩
        replace HO_139000 := Aside0.mk (Kd.R_below (ro HO_139000.out) hb)
        replace HO_139001 := Aside0.mk (Kd.R_below (ro HO_139001.out) hb)
        replace BK135 := bb BK135 hb
        replace BK136 := bb BK136 hb
        replace BK138 := bb BK138 hb
        replace HB := bs HB hb
        (try clear hb)
        (try clear hb2)
        (try clear hk)
        (try clear hi)
        refine hK.out _ _ ⟨bc BK138 0, bc BK138 1, bc BK138 2, bc BK135 0, bc BK135 1, bc BK135 2⟩ (fun hHeld => ?_)
        clear hK K
        refine nm ?_
        refine on 9 46 (ba 13 1023) (fun K hK => ?_)
        refine value_ (w1 := ?_) (v := ?_) (by rfl) rfl ?_ ?_
        rotate_left 2
        ·go_simp
         constructor
         ·rfl
         ·rfl
        refine hK.out _ _ ⟨(blk_cell (blk_alloc BK138.out _) 0).trans rfl, (blk_cell (blk_alloc BK138.out _) 1).trans rfl, (blk_cell (blk_alloc BK138.out _) 2).trans rfl, (blk_cell (blk_alloc BK135.out _) 0).trans rfl, (blk_cell (blk_alloc BK135.out _) 1).trans rfl, (blk_cell (blk_alloc BK135.out _) 2).trans rfl⟩ (fun hHeld => ?_)
        clear hK K
        refine nm ?_
        refine on 10 47 (ba 13 2047) (fun K hK => ?_)
        refine Kd.R_append_step (Kd.int .i64) (w0 := w) w.heap.size (by rfl) (.tmp 38) (.tmp 46) 35 3 (.int .i64 0) 8 rfl Try.underlying35 info3 rfl (by decide) (by omega) u139001 x139001_1 t148 [.int .i64 t148] (fun k_ => some k_ ≠ (u139000 : Value).ownBlock) (fun _ => False) rfl rfl ?aP (fun _ hk => hk.elim) ?aF ?aO ?aB ?aS ?aL ?_
        (case aP => exact rfl)
        (case aB => exact (bo HB))
        (case aF => exact (fun k_ hk => Kd.fresh' (Kd.R_lt (ro HO_139000.out)) k_ hk))
        (case aO => exact (ro HO_139001.out))
        (case aS => exact (below_size (bo HB)))
        (case aL => have := LMc40.out; omega)
        intro v150 w43 ho hb hg hat
        rw [← Ny149.out] at ho
        have HO151 := Aside0.mk (ho)
        replace HO_139000 := Aside0.mk (Kd.R_after (ok := (fun _ => True)) (ro (Kd.R_mono HO_139000.out (fun _ hk => ⟨trivial, hk⟩))) hg hat)
        replace BK135 := Aside0.mk (blk_grown (bt BK135) hg (Kd.R_ne HO_139001.out BK135.out (by decide)))
        replace BK136 := Aside0.mk (blk_grown (bt BK136) hg (Kd.R_ne HO_139001.out BK136.out (by decide)))
        replace BK138 := Aside0.mk (blk_grown (bt BK138) hg (Kd.R_ne HO_139001.out BK138.out (by decide)))
        replace HB := Aside0.mk (hb)
        clear HO_139001
        clear ho hb hg hat
        obtain ⟨Ao44, co44, eo44⟩ := Kd.R_slice HO151.out
        (first | subst eo44 | (injection eo44 with f1_ f2_ f3_; have f4_ := f1_.symm; have f5_ := f3_.symm; clear f1_ f2_ f3_; subst f4_; subst f5_))
        refine hK.out _ _ ⟨bc BK138 0, bc BK138 1, bc BK138 2, bc BK135 0, bc BK135 1, bc BK135 2⟩ (fun hHeld => ?_)
        clear hK K
        refine nm ?_
        refine pu 11 48 (ba 13 4095) ?_
        refine last_ (i := 12) (N := none) (ba 13 8191) rfl rfl (one_of HT_.out (by kernel_rfl)) (by decide) (fun K hK => ?_)
        have hs45 : w43.cell? ⟨gb138, 1, none⟩ = some (u139001) := bc BK138 1
        have hfs45 := blk_frozen BK138.out 1
        have hns45_0 := NB135_138.out
        have hns45_1 := NB136_138.out
        have hms45_0 := NB138_135.out
        have hms45_1 := NB138_136.out
        refine skip_ (w1 := ?_) (by rfl) rfl ?_ ?_
        rotate_left
        ·go_simp
         rfl
        refine hK.out _ _ ?_
        clear hK K
        refine done_ (done_of HT_.out (by kernel_rfl)) ?_
        try go_wp2
        go_roundg k1
        case measure => have := HK1.out; omega
        case rel => exact ⟨(wrap64 (x9_1 + 1)), (x139000_1), (y149), (u139000), (.slice Ao44 y149.length co44), rv, H', ⟨by have := HK1.out; omega⟩, (ra (Kd.R_mono (Kd.R_far (p := ⟨gb138, 1, none⟩) (Kd.R_types HO_139000.out BK138.out (by decide)) (fun _ hk => hk.2) (.slice Ao44 y149.length co44)) (fun _ hk => hk.1.2))), (ra (Kd.R_mono (Kd.R_far (p := ⟨gb138, 1, none⟩) (Kd.R_types HO151.out BK138.out (by decide)) (fun _ hk => hk.2) (.slice Ao44 y149.length co44)) (fun _ hk => hk.1))), ⟨by (with_reducible repeat (first | refine blk_drewN ?_ _ | refine blk_drew ?_ | refine blk_alloc ?_ _)); refine blk_far ?_ NB135_138.out _; (with_reducible repeat (first | refine blk_drewN ?_ _ | refine blk_drew ?_ | refine blk_alloc ?_ _)); exact BK135.out⟩, ⟨by (with_reducible repeat (first | refine blk_drewN ?_ _ | refine blk_drew ?_ | refine blk_alloc ?_ _)); refine blk_far ?_ NB136_138.out _; (with_reducible repeat (first | refine blk_drewN ?_ _ | refine blk_drew ?_ | refine blk_alloc ?_ _)); exact BK136.out⟩, ⟨by (with_reducible repeat (first | refine blk_drewN ?_ _ | refine blk_drew ?_ | refine blk_alloc ?_ _)); refine blk_put (cs := #[u139000, u139001, .int .i64 (-1)]) ?_ 1 _ rfl; (with_reducible repeat (first | refine blk_drewN ?_ _ | refine blk_drew ?_ | refine blk_alloc ?_ _)); exact BK138.out⟩, bh HB⟩
       ·rw [if_neg c40] at H
        exact absurd H (by simp)
      ·rw [if_neg c38] at H
       have c38b0 : decide (0 < a1) = false := decide_eq_false c38
       clear c38
       have H' := Aside0.mk H
       clear H
       go_wp2
       go_roundg k1
       case measure => have := HK1.out; omega
       case rel => exact ⟨(wrap64 (x9_1 + 1)), (x139000_1), (x139001_1), (u139000), (u139001), rv, H', ⟨by have := HK1.out; omega⟩, (ra HO_139000.out), (ra HO_139001.out), bk BK135, bk BK136, bk BK138, bh HB⟩
    ·rw [if_neg c15] at H
     have c15b0 := decide_eq_false c15
     clear c15
     by_cases c46 : a1 > 0
     ·rw [if_pos c46] at H
      have c46b0 : decide (0 < a1) = true := decide_eq_true c46
      clear c46
      by_cases c47 : a2 > 0
      ·rw [if_pos c47] at H
       have c47b0 : decide (0 < a2) = true := decide_eq_true c47
       clear c47
       replace H := bnd H
       obtain ⟨t139, A48, H⟩ := H
       simp only [Option.some.injEq, Prod.mk.injEq] at H
       obtain ⟨rfl, rfl, rfl, rfl⟩ := H
       have hnb49 := NB135_136.out
       have hnc49 := NB136_135.out
       have hnb50 := NB135_138.out
       have hnc50 := NB138_135.out
       obtain ⟨hcz51_0, hcz51_1, hcz51_2, hfz51_0, hfz51_1, hfz51_2⟩ := cl3 BK135
       go_wp2_with (first | ((with_reducible refine gate_callee (f := 87) rfl ?_); refine gL (some 60) Try.func87 #[.agg #[.int .i64 a0_0, .int .i64 a0_1, .string a0_2], .int .i64 (wrap64 (a1 - 1)), .int .i64 (wrap64 (a2 - 1))] ?_ (hargs := (by (try simp only [List.map_toArray, List.map_cons, List.map_nil]); first | done | rfl | (rw [show (wrap64 (a1 - 1)) = (a1 - 1) from by unfold wrap64; omega, show (wrap64 (a2 - 1)) = (a2 - 1) from by unfold wrap64; omega]; rfl) | (simp only [List.length_drop, List.length_take]; rfl))); (with_reducible refine (spec_DotAt.calls k1 a0_0 a0_1 a0_2 (wrap64 (a1 - 1)) (wrap64 (a2 - 1)) t139 _ A48.out).mono ?_); rintro e w52 ⟨rfl, hb⟩; refine ⟨_, rfl, ?_⟩; replace HO_139000 := Aside0.mk (Kd.R_below (ro HO_139000.out) hb); replace HO_139001 := Aside0.mk (Kd.R_below (ro HO_139001.out) hb); replace BK135 := bb BK135 hb; replace BK136 := bb BK136 hb; replace BK138 := bb BK138 hb; replace HB := bs HB hb; (try clear hb); have hnb53 := NB138_136.out; have hnc53 := NB136_138.out; obtain ⟨hcz54_0, hcz54_1, hcz54_2, hfz54_0, hfz54_1, hfz54_2⟩ := cl3 BK138; obtain ⟨Ao55, co55, eo55⟩ := Kd.R_slice HO_139000.out; subst eo55; obtain ⟨hcz56_0, hcz56_1, hcz56_2, hfz56_0, hfz56_1, hfz56_2⟩ := cl3 BK136; obtain ⟨Ao57, co57, eo57⟩ := Kd.R_slice HO_139001.out; subst eo57))
       refine bodyPost_ret (results_ct rfl _ _ gb136 101 #[.slice Ao55 x139000_1.length co55, .slice Ao57 x139001_1.length co57, .int .i64 t139] (0, 0) _ rfl (by (with_reducible repeat (first | refine blk_drewN ?_ _ | refine blk_drew ?_ | refine blk_alloc ?_ _)); refine blk_put (cs := #[.slice Ao55 x139000_1.length co55, .slice Ao57 x139001_1.length co57, .int .i64 0]) ?_ 2 _ rfl; (with_reducible repeat (first | refine blk_drewN ?_ _ | refine blk_drew ?_ | refine blk_alloc ?_ _)); refine blk_put (cs := #[.slice Ao55 x139000_1.length co55, .slice none 0 0, .int .i64 0]) ?_ 1 _ rfl; (with_reducible repeat (first | refine blk_drewN ?_ _ | refine blk_drew ?_ | refine blk_alloc ?_ _)); refine blk_put (cs := #[.slice none 0 0, .slice none 0 0, .int .i64 0]) ?_ 0 _ rfl; (with_reducible repeat (first | refine blk_drewN ?_ _ | refine blk_drew ?_ | refine blk_alloc ?_ _)); refine blk_far ?_ NB136_138.out _; (with_reducible repeat (first | refine blk_drewN ?_ _ | refine blk_drew ?_ | refine blk_alloc ?_ _)); exact BK136.out) Try.underlying101 rfl (by kernel_rfl)) rfl ?_
       exact ⟨_, _, re, ro (Kd.R_mono (Kd.R_far (p := ⟨gb136, 2, none⟩) (Kd.R_far (p := ⟨gb136, 1, none⟩) (Kd.R_far (p := ⟨gb136, 0, none⟩) (Kd.R_far (p := ⟨gb138, 2, none⟩) (Kd.R_types (Kd.R_types HO_139000.out BK138.out (by decide)) BK136.out (by decide)) (fun _ hk => hk.1.2) (.int .i64 t139)) (fun _ hk => hk.2) (.slice Ao55 x139000_1.length co55)) (fun _ hk => hk.2) (.slice Ao57 x139001_1.length co57)) (fun _ hk => hk.2) (.int .i64 t139)) (fun _ hk => hk.1.1)), ro (Kd.R_mono (Kd.R_far (p := ⟨gb136, 2, none⟩) (Kd.R_far (p := ⟨gb136, 1, none⟩) (Kd.R_far (p := ⟨gb136, 0, none⟩) (Kd.R_far (p := ⟨gb138, 2, none⟩) (Kd.R_types (Kd.R_types HO_139001.out BK138.out (by decide)) BK136.out (by decide)) (fun _ hk => hk.1.2) (.int .i64 t139)) (fun _ hk => hk.2) (.slice Ao55 x139000_1.length co55)) (fun _ hk => hk.2) (.slice Ao57 x139001_1.length co57)) (fun _ hk => hk.2) (.int .i64 t139)) (fun _ hk => hk.1.1)), bo HB⟩
      ·rw [if_neg c47] at H
       have c47b0 : decide (0 < a2) = false := decide_eq_false c47
       clear c47
       simp only [Option.some.injEq, Prod.mk.injEq] at H
       obtain ⟨rfl, rfl, rfl, rfl⟩ := H
       have hnb58 := NB138_135.out
       have hnc58 := NB135_138.out
       have hnb59 := NB138_136.out
       have hnc59 := NB136_138.out
       obtain ⟨hcz60_0, hcz60_1, hcz60_2, hfz60_0, hfz60_1, hfz60_2⟩ := cl3 BK138
       obtain ⟨Ao61, co61, eo61⟩ := Kd.R_slice HO_139000.out
       subst eo61
       have hnb62 := NB136_135.out
       have hnc62 := NB135_136.out
       obtain ⟨hcz63_0, hcz63_1, hcz63_2, hfz63_0, hfz63_1, hfz63_2⟩ := cl3 BK136
       obtain ⟨Ao64, co64, eo64⟩ := Kd.R_slice HO_139001.out
       subst eo64
       go_wp2
       refine bodyPost_ret (results_ct rfl _ _ gb136 101 #[.slice Ao61 x139000_1.length co61, .slice Ao64 x139001_1.length co64, .int .i64 (-1)] (0, 0) _ rfl (by (with_reducible repeat (first | refine blk_drewN ?_ _ | refine blk_drew ?_ | refine blk_alloc ?_ _)); refine blk_put (cs := #[.slice Ao61 x139000_1.length co61, .slice Ao64 x139001_1.length co64, .int .i64 0]) ?_ 2 _ rfl; (with_reducible repeat (first | refine blk_drewN ?_ _ | refine blk_drew ?_ | refine blk_alloc ?_ _)); refine blk_put (cs := #[.slice Ao61 x139000_1.length co61, .slice none 0 0, .int .i64 0]) ?_ 1 _ rfl; (with_reducible repeat (first | refine blk_drewN ?_ _ | refine blk_drew ?_ | refine blk_alloc ?_ _)); refine blk_put (cs := #[.slice none 0 0, .slice none 0 0, .int .i64 0]) ?_ 0 _ rfl; (with_reducible repeat (first | refine blk_drewN ?_ _ | refine blk_drew ?_ | refine blk_alloc ?_ _)); exact BK136.out) Try.underlying101 rfl (by kernel_rfl)) rfl ?_
       exact ⟨_, _, re, ro (Kd.R_mono (Kd.R_far (p := ⟨gb136, 2, none⟩) (Kd.R_far (p := ⟨gb136, 1, none⟩) (Kd.R_far (p := ⟨gb136, 0, none⟩) (Kd.R_types HO_139000.out BK136.out (by decide)) (fun _ hk => hk.2) (.slice Ao61 x139000_1.length co61)) (fun _ hk => hk.2) (.slice Ao64 x139001_1.length co64)) (fun _ hk => hk.2) (.int .i64 (-1))) (fun _ hk => hk.1)), ro (Kd.R_mono (Kd.R_far (p := ⟨gb136, 2, none⟩) (Kd.R_far (p := ⟨gb136, 1, none⟩) (Kd.R_far (p := ⟨gb136, 0, none⟩) (Kd.R_types HO_139001.out BK136.out (by decide)) (fun _ hk => hk.2) (.slice Ao61 x139000_1.length co61)) (fun _ hk => hk.2) (.slice Ao64 x139001_1.length co64)) (fun _ hk => hk.2) (.int .i64 (-1))) (fun _ hk => hk.1)), bo HB⟩
     ·rw [if_neg c46] at H
      have c46b0 : decide (0 < a1) = false := decide_eq_false c46
      clear c46
      simp only [Option.some.injEq, Prod.mk.injEq] at H
      obtain ⟨rfl, rfl, rfl, rfl⟩ := H
      have hnb65 := NB138_135.out
      have hnc65 := NB135_138.out
      have hnb66 := NB138_136.out
      have hnc66 := NB136_138.out
      obtain ⟨hcz67_0, hcz67_1, hcz67_2, hfz67_0, hfz67_1, hfz67_2⟩ := cl3 BK138
      obtain ⟨Ao68, co68, eo68⟩ := Kd.R_slice HO_139000.out
      subst eo68
      have hnb69 := NB136_135.out
      have hnc69 := NB135_136.out
      obtain ⟨hcz70_0, hcz70_1, hcz70_2, hfz70_0, hfz70_1, hfz70_2⟩ := cl3 BK136
      obtain ⟨Ao71, co71, eo71⟩ := Kd.R_slice HO_139001.out
      subst eo71
      go_wp2
      refine bodyPost_ret (results_ct rfl _ _ gb136 101 #[.slice Ao68 x139000_1.length co68, .slice Ao71 x139001_1.length co71, .int .i64 (-1)] (0, 0) _ rfl (by (with_reducible repeat (first | refine blk_drewN ?_ _ | refine blk_drew ?_ | refine blk_alloc ?_ _)); refine blk_put (cs := #[.slice Ao68 x139000_1.length co68, .slice Ao71 x139001_1.length co71, .int .i64 0]) ?_ 2 _ rfl; (with_reducible repeat (first | refine blk_drewN ?_ _ | refine blk_drew ?_ | refine blk_alloc ?_ _)); refine blk_put (cs := #[.slice Ao68 x139000_1.length co68, .slice none 0 0, .int .i64 0]) ?_ 1 _ rfl; (with_reducible repeat (first | refine blk_drewN ?_ _ | refine blk_drew ?_ | refine blk_alloc ?_ _)); refine blk_put (cs := #[.slice none 0 0, .slice none 0 0, .int .i64 0]) ?_ 0 _ rfl; (with_reducible repeat (first | refine blk_drewN ?_ _ | refine blk_drew ?_ | refine blk_alloc ?_ _)); exact BK136.out) Try.underlying101 rfl (by kernel_rfl)) rfl ?_
      exact ⟨_, _, re, ro (Kd.R_mono (Kd.R_far (p := ⟨gb136, 2, none⟩) (Kd.R_far (p := ⟨gb136, 1, none⟩) (Kd.R_far (p := ⟨gb136, 0, none⟩) (Kd.R_types HO_139000.out BK136.out (by decide)) (fun _ hk => hk.2) (.slice Ao68 x139000_1.length co68)) (fun _ hk => hk.2) (.slice Ao71 x139001_1.length co71)) (fun _ hk => hk.2) (.int .i64 (-1))) (fun _ hk => hk.1)), ro (Kd.R_mono (Kd.R_far (p := ⟨gb136, 2, none⟩) (Kd.R_far (p := ⟨gb136, 1, none⟩) (Kd.R_far (p := ⟨gb136, 0, none⟩) (Kd.R_types HO_139001.out BK136.out (by decide)) (fun _ hk => hk.2) (.slice Ao68 x139000_1.length co68)) (fun _ hk => hk.2) (.slice Ao71 x139001_1.length co71)) (fun _ hk => hk.2) (.int .i64 (-1))) (fun _ hk => hk.1)), bo HB⟩
 ·replace c5 := Bool.eq_false_iff.mpr c5
  subst c5
  rw [if_neg nft] at H
  simp only [Option.some.injEq, Prod.mk.injEq] at H
  obtain ⟨rfl, rfl, rfl, rfl⟩ := H
  go_enter Try.func67, Try.ntmps67
  go_wp2_with (first | ((with_reducible refine gate_dst (N := 3) rfl ?_); refine bx 3 #[.int .i64 a0_0, .int .i64 a0_1, .string a0_2] 25 ?_; intro gb135 hg w72 BK135 hb; have GW135 := ge HB hg; have GE135 := ge HB hg; replace HB := bs HB hb; clear hb hg) | ((with_reducible refine gate_dst (N := 6) rfl ?_); refine bx 6 #[.slice none 0 0, .slice none 0 0, .int .i64 0] 101 ?_; intro gb136 hg w73 BK136 hb; have GW136 := ge HB hg; have GE136 := ge HB hg; have NB135_136 := n1 BK135 hg; have NB136_135 := n2 BK135 hg; replace BK135 := bb BK135 hb; replace HB := bs HB hb; clear hb hg; have hnb74 := NB135_136.out; have hnc74 := NB136_135.out; obtain ⟨hcz75_0, hcz75_1, hcz75_2, hfz75_0, hfz75_1, hfz75_2⟩ := cl3 BK135) | ((with_reducible refine gate_callee (f := 65) rfl ?_); refine gL (some 13) Try.func65 #[.agg #[.int .i64 a0_0, .int .i64 a0_1, .string a0_2], .int .i64 a1, .int .i64 a2] ?_; (with_reducible refine (spec_l13Fits.calls a0_0 a0_1 a0_2 a1 a2 false _ A4.out).mono ?_); rintro e w76 ⟨rfl, hb⟩; refine ⟨_, rfl, ?_⟩; replace BK135 := bb BK135 hb; replace BK136 := bb BK136 hb; replace HB := bs HB hb; (try clear hb); obtain ⟨hcz77_0, hcz77_1, hcz77_2, hfz77_0, hfz77_1, hfz77_2⟩ := cl3 BK136))
  refine bodyPost_ret (results_ct rfl _ _ gb136 101 #[.slice none 0 0, .slice none 0 0, .int .i64 0] (0, 0) _ rfl (by (with_reducible repeat (first | refine blk_drewN ?_ _ | refine blk_drew ?_ | refine blk_alloc ?_ _)); refine blk_put (cs := #[.slice none 0 0, .slice none 0 0, .int .i64 0]) ?_ 2 _ rfl; (with_reducible repeat (first | refine blk_drewN ?_ _ | refine blk_drew ?_ | refine blk_alloc ?_ _)); refine blk_put (cs := #[.slice none 0 0, .slice none 0 0, .int .i64 0]) ?_ 1 _ rfl; (with_reducible repeat (first | refine blk_drewN ?_ _ | refine blk_drew ?_ | refine blk_alloc ?_ _)); refine blk_put (cs := #[.slice none 0 0, .slice none 0 0, .int .i64 0]) ?_ 0 _ rfl; (with_reducible repeat (first | refine blk_drewN ?_ _ | refine blk_drew ?_ | refine blk_alloc ?_ _)); exact BK136.out) Try.underlying101 rfl (by kernel_rfl)) rfl ?_
  exact ⟨_, _, re, by first | exact Kd.R_nil _ _ _ _ _ | exact Kd.N_nil _ _ _ _ _ | exact Kd.V_nil _ _ _ _ _ | exact Kd.Q_nil _ _ _ _ _ | exact Kd.S_nil _ _ _ _ _, by first | exact Kd.R_nil _ _ _ _ _ | exact Kd.N_nil _ _ _ _ _ | exact Kd.V_nil _ _ _ _ _ | exact Kd.Q_nil _ _ _ _ _ | exact Kd.S_nil _ _ _ _ _, bo HB⟩

end Go.Proofs.Ytnaccgommclhaaa.QFnExactSquareDots
