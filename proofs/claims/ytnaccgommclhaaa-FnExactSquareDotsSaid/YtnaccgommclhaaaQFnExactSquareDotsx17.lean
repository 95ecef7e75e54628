/- What the law reaches, as plain functions, each with the proof that its call comes to its answer: written by a program for this claim. -/
import Derived.Test.YtnaccgommclhaaaQFnExactSquareDotsx0
import Derived.Test.YtnaccgommclhaaaQFnExactSquareDotsx16
import Derived.Test.YtnaccgommclhaaaUFnExactSquareDotsV5
namespace Go.Proofs.Ytnaccgommclhaaa.QFnExactSquareDots
open Go.RowKit Go.Proofs.YtnaccgommclhaaaW.PrintWords Go.Proofs.YtnaccgommclhaaaW.PrintLast Go.Proofs.YtnaccgommclhaaaW.PrintMore Go.Proofs.YtnaccgommclhaaaV
attribute [local go_sem] max2_int min2_int max_two min_two max_three min_three max_four min_four   -- for this text's walks alone
set_option linter.unusedVariables false
set_option linter.unusedSimpArgs false
set_option maxHeartbeats 8000000
set_option maxRecDepth 100000

mutual
def impl_sums.l0 : Nat → List Int → List Int → Int → Option (List Int)
 | 0, _, _, _ => none
 | k + 1, x0, x3, x12 => if x12 < 8 then (impl_sums.l1 k x0 x3 x12 x12 0) else (if 64 ≤ 35184372088832 then (impl_sums.l3 k x3 (List.replicate 64 0) 0) else (none))
def impl_sums.l1 : Nat → List Int → List Int → Int → Int → Int → Option (List Int)
 | 0, _, _, _, _, _ => none
 | k + 1, x0, x3, x4, x12, x15 => if x15 < 8 then (impl_sums.l2 k x0 x3 x4 x15 x12 x15 0) else (impl_sums.l0 k x0 x3 (wrap64 (x12 + 1)))
def impl_sums.l2 : Nat → List Int → List Int → Int → Int → Int → Int → Int → Option (List Int)
 | 0, _, _, _, _, _, _, _ => none
 | k + 1, x0, x3, x4, x5, x12, x15, x18 => if x18 < 8 then (if 0 ≤ (wrap64 ((wrap64 (8 * x4)) + x5)) then (if (wrap64 ((wrap64 (8 * x4)) + x5)) < (x3.length : Int) then ((impl_SignOf.f k x5 x18).bind fun t459 => (if 0 ≤ (wrap64 ((wrap64 (8 * x4)) + x18)) then (if (wrap64 ((wrap64 (8 * x4)) + x18)) < (x0.length : Int) then (impl_sums.l2 k x0 (x3.set ((wrap64 ((wrap64 (8 * x4)) + x5)) : Int).toNat (wrap64 ((rd x3 (wrap64 ((wrap64 (8 * x4)) + x5))) + (wrap64 (t459 * (rd x0 (wrap64 ((wrap64 (8 * x4)) + x18)))))))) x4 x5 x12 x15 (wrap64 (x18 + 1))) else (none)) else (none))) else (none)) else (none)) else (impl_sums.l1 k x0 x3 x4 x12 (wrap64 (x15 + 1)))
def impl_sums.l3 : Nat → List Int → List Int → Int → Option (List Int)
 | 0, _, _, _ => none
 | k + 1, x3, x7, x50 => if x50 < 8 then (impl_sums.l4 k x3 x7 x50 x50 0) else (some x7)
def impl_sums.l4 : Nat → List Int → List Int → Int → Int → Int → Option (List Int)
 | 0, _, _, _, _, _ => none
 | k + 1, x3, x7, x8, x50, x53 => if x53 < 8 then (impl_sums.l5 k x3 x7 x8 x53 x50 x53 0) else (impl_sums.l3 k x3 x7 (wrap64 (x50 + 1)))
def impl_sums.l5 : Nat → List Int → List Int → Int → Int → Int → Int → Int → Option (List Int)
 | 0, _, _, _, _, _, _, _ => none
 | k + 1, x3, x7, x8, x9, x50, x53, x56 => if x56 < 8 then (if 0 ≤ (wrap64 ((wrap64 (8 * x8)) + x9)) then (if (wrap64 ((wrap64 (8 * x8)) + x9)) < (x7.length : Int) then ((impl_SignOf.f k x8 x56).bind fun t466 => (if 0 ≤ (wrap64 ((wrap64 (8 * x56)) + x9)) then (if (wrap64 ((wrap64 (8 * x56)) + x9)) < (x3.length : Int) then (impl_sums.l5 k x3 (x7.set ((wrap64 ((wrap64 (8 * x8)) + x9)) : Int).toNat (wrap64 ((rd x7 (wrap64 ((wrap64 (8 * x8)) + x9))) + (wrap64 (t466 * (rd x3 (wrap64 ((wrap64 (8 * x56)) + x9)))))))) x8 x9 x50 x53 (wrap64 (x56 + 1))) else (none)) else (none))) else (none)) else (none)) else (impl_sums.l4 k x3 x7 x8 x50 (wrap64 (x53 + 1)))
end
def impl_sums.f (k : Nat) (l0 : List Int) : Option (List Int) := if 64 ≤ 35184372088832 then (impl_sums.l0 k l0 (List.replicate 64 0) 0) else (none)
def impl_sums.T11 : Bool × List (List Nat × List Nat) := (true, [([], []), ([], []), ([1], [1]), ([], []), ([2, 3], [2, 3]), ([], []), ([], []), ([6], [6]), ([], []), ([7, 8], [7, 8]), ([5, 9], [5, 9]), ([10], [10]), ([], []), ([], []), ([12, 13], [12, 13]), ([], []), ([], []), ([16], [16]), ([], []), ([17, 18], [17, 18]), ([15, 19], [15, 19]), ([20], [20]), ([14, 21], [14, 21]), ([11, 22], [11, 22]), ([0, 4, 0, 1, 2, 3, 4, 5, 6, 7, 8, 9, 10, 11, 12, 13, 14, 15, 16, 17, 18, 19, 20, 21, 22, 23], [0, 4]), ([24, 23, 14, 0, 1, 2, 3, 4, 5, 6, 7, 8, 9, 10, 11, 12, 13, 14, 15, 16, 17, 18, 19, 20, 21, 22, 23], [23, 24])])
def impl_sums.B11 : List Nat := [0, 0, 2, 0, 14, 0, 0, 64, 0, 448, 992, 2016, 0, 0, 12288, 0, 0, 65536, 0, 458752, 1015808, 2064384, 4190208, 8388576, 16777215, 33554431]
theorem impl_sums.tab11 : rtab .any (opsOf Try.f151 11) = impl_sums.T11 := by kernel_rfl
theorem impl_sums.bits11 : waitsOk impl_sums.T11.2 impl_sums.B11 = true := by kernel_rfl
def impl_sums.T25 : Bool × List (List Nat × List Nat) := (true, [([], []), ([], []), ([1], [1]), ([], []), ([2, 3], [2, 3]), ([], []), ([], []), ([6], [6]), ([], []), ([7, 8], [7, 8]), ([5, 9], [5, 9]), ([10], [10]), ([], []), ([], []), ([12, 13], [12, 13]), ([], []), ([], []), ([16], [16]), ([], []), ([17, 18], [17, 18]), ([15, 19], [15, 19]), ([20], [20]), ([14, 21], [14, 21]), ([11, 22], [11, 22]), ([0, 4, 0, 1, 2, 3, 4, 5, 6, 7, 8, 9, 10, 11, 12, 13, 14, 15, 16, 17, 18, 19, 20, 21, 22, 23], [0, 4]), ([24, 23, 14, 0, 1, 2, 3, 4, 5, 6, 7, 8, 9, 10, 11, 12, 13, 14, 15, 16, 17, 18, 19, 20, 21, 22, 23], [23, 24])])
def impl_sums.B25 : List Nat := [0, 0, 2, 0, 14, 0, 0, 64, 0, 448, 992, 2016, 0, 0, 12288, 0, 0, 65536, 0, 458752, 1015808, 2064384, 4190208, 8388576, 16777215, 33554431]
theorem impl_sums.tab25 : rtab .any (opsOf Try.f151 25) = impl_sums.T25 := by kernel_rfl
theorem impl_sums.bits25 : waitsOk impl_sums.T25.2 impl_sums.B25 = true := by kernel_rfl
theorem impl_sums.calls (k : Nat) (A0 : Option Addr) (c0 : Nat) (l0 : List Int) (r : List Int) (w : World) (hr0 : Kd.C (Kd.int .i64) w A0 l0.length l0) (hc0 : l0.length ≤ c0) (h : impl_sums.f k l0 = some r) :
  Calls Try.prog 151 #[.slice A0 l0.length c0] w fun e w' => ∃ v0_ : Value, e = .returned (v0_) ∧ Kd.R (Kd.int .i64) 3 w' w.heap.size (fun _ => True) v0_ r ∧ Below w.heap.size w w' := by
 have HR0 := Aside0.mk hr0
 have HC0 := Aside0.mk hc0
 clear hr0 hc0
 have HB := Aside0.mk (Below.refl w.heap.size w)
 have H := h
 clear h
 unfold impl_sums.f at H
 by_cases c2 : 64 ≤ 35184372088832
 ·rw [if_pos c2] at H
  have c2b0 := eq_true c2
  have c2b1 := decide_eq_true c2
  clear c2
  obtain ⟨y455, hy455⟩ : ∃ y_ : List Int, y_ = (List.replicate 64 0) := ⟨_, rfl⟩
  replace H : (impl_sums.l0 k l0 y455 0) = some r := by subst hy455; exact H
  have Ny455 := Aside0.mk hy455
  clear hy455
  have H' := Aside0.mk H
  clear H
  go_enter Try.func151, Try.ntmps151
  go_wp2_with (first | ((with_reducible refine gate_dst (N := 11) rfl ?_); refine Kd.R_make (Kd.int .i64) _ 3 rfl (N := 11) rfl 35 _ _ rfl 64 rfl rfl Try.underlying35 (.int .i64 0) 8 info3 rfl (by decide) (by omega) 0 (ok := fun _ => True) (okp := fun _ => True) rfl (fun _ hk => hk) trivial (by omega) (by omega) (Below.refl _ _) (Nat.le_refl _) ?_; intro v456 w3 ho4 hb hg_ hnew_; clear hg_ hnew_; (first | rw [← Ny455.out] at ho4 | (simp only [Int.reduceToNat] at ho4; rw [← Ny455.out] at ho4)); have HO457 := Aside0.mk (Kd.R_lower ho4 (below_size (bo HB))); replace HB := bs HB hb; clear hb ho4))
  go_loopg [12] k (fun kq v12 w' => ∃ (x3_1 : List Int) (x12_1 : Int), v12 = .int .i64 x12_1 ∧ Aside0 (impl_sums.l0 kq l0 x3_1 x12_1 = some r) ∧ Aside0 (kq ≤ k) ∧ Aside0 (Kd.R (Kd.int .i64) 3 w' w.heap.size (fun _ => True) v456 x3_1) ∧ Aside0 (Below w.heap.size w w'))
  case atStart => exact ⟨(y455), (0), rv, H', ⟨Nat.le_refl _⟩, (ra HO457.out), bh HB⟩
  case round =>
   clear H'
   obtain ⟨x3_1, x12_1, rfl, HA, HK1, HO_3, HB⟩ := hrel
   cases gk with
   | zero => exact absurd HA.out (by simp [impl_sums.l0])
   | succ k1 =>
    have H := HA.out
    clear HA
    simp only [impl_sums.l0] at H
    by_cases c5 : x12_1 < 8
    ·rw [if_pos c5] at H
     have c5b0 := decide_eq_true c5
     clear c5
     have H' := Aside0.mk H
     clear H
     go_wp2
     go_loopg [15] k1 (fun kq v15 w' => ∃ (x3_2 : List Int) (x15_2 : Int), v15 = .int .i64 x15_2 ∧ Aside0 (impl_sums.l1 kq l0 x3_2 x12_1 x12_1 x15_2 = some r) ∧ Aside0 (kq ≤ k1) ∧ Aside0 (Kd.R (Kd.int .i64) 3 w' w.heap.size (fun _ => True) v456 x3_2) ∧ Aside0 (Below w.heap.size w w'))
     case atStart => exact ⟨(x3_1), (0), rv, H', ⟨Nat.le_refl _⟩, (ra HO_3.out), bh HB⟩
     case round =>
      clear H'
      obtain ⟨x3_2, x15_2, rfl, HA, HK2, HO_3, HB⟩ := hrel
      cases gk with
      | zero => exact absurd HA.out (by simp [impl_sums.l1])
      | succ k2 =>
       have H := HA.out
       clear HA
       simp only [impl_sums.l1] at H
       by_cases c6 : x15_2 < 8
       ·rw [if_pos c6] at H
        have c6b0 := decide_eq_true c6
        clear c6
        have H' := Aside0.mk H
        clear H
        go_wp2
        go_loopg [18] k2 (fun kq v18 w' => ∃ (x3_3 : List Int) (x18_3 : Int), v18 = .int .i64 x18_3 ∧ Aside0 (impl_sums.l2 kq l0 x3_3 x12_1 x15_2 x12_1 x15_2 x18_3 = some r) ∧ Aside0 (kq ≤ k2) ∧ Aside0 (Kd.R (Kd.int .i64) 3 w' w.heap.size (fun _ => True) v456 x3_3) ∧ Aside0 (Below w.heap.size w w'))
        case atStart => exact ⟨(x3_2), (0), rv, H', ⟨Nat.le_refl _⟩, (ra HO_3.out), bh HB⟩
        case round =>
         clear H'
         obtain ⟨x3_3, x18_3, rfl, HA, HK3, HO_3, HB⟩ := hrel
         cases gk with
         | zero => exact absurd HA.out (by simp [impl_sums.l2])
         | succ k3 =>
          have H := HA.out
          clear HA
          simp only [impl_sums.l2] at H
          by_cases c7 : x18_3 < 8
          ·rw [if_pos c7] at H
           have c7b0 := decide_eq_true c7
           clear c7
           obtain ⟨ji8, hji8⟩ : ∃ j_ : Int, (wrap64 ((wrap64 (8 * x12_1)) + x15_2)) = j_ := ⟨_, rfl⟩
           replace H : (if 0 ≤ (ji8) then (if (ji8) < (x3_3.length : Int) then ((impl_SignOf.f k3 x15_2 x18_3).bind fun t459 => (if 0 ≤ (wrap64 ((wrap64 (8 * x12_1)) + x18_3)) then (if (wrap64 ((wrap64 (8 * x12_1)) + x18_3)) < (l0.length : Int) then (impl_sums.l2 k3 l0 (x3_3.set ((ji8) : Int).toNat (wrap64 ((rd x3_3 (ji8)) + (wrap64 (t459 * (rd l0 (wrap64 ((wrap64 (8 * x12_1)) + x18_3)))))))) x12_1 x15_2 x12_1 x15_2 (wrap64 (x18_3 + 1))) else (none)) else (none))) else (none)) else (none)) = some r := by first | (rw [hji8] at H; exact H) | (simp only [hji8] at H ⊢; exact H)
           have hji8w : (IntKind.i64.wrap ((wrap64 (8 * x12_1)) + x15_2)) = ji8 := (i64_w _).trans hji8
           by_cases c9 : 0 ≤ (ji8)
           ·rw [if_pos c9] at H
            have c9b0 := decide_eq_true c9
            clear c9
            by_cases c10 : (ji8) < (x3_3.length : Int)
            ·rw [if_pos c10] at H
             have c10b0 := decide_eq_true c10
             clear c10
             replace H := bnd H
             obtain ⟨t459, A11, H⟩ := H
             obtain ⟨ji12, hji12⟩ : ∃ j_ : Int, (wrap64 ((wrap64 (8 * x12_1)) + x18_3)) = j_ := ⟨_, rfl⟩
             replace H : (if 0 ≤ (ji12) then (if (ji12) < (l0.length : Int) then (impl_sums.l2 k3 l0 (x3_3.set ((ji8) : Int).toNat (wrap64 ((rd x3_3 (ji8)) + (wrap64 (t459 * (rd l0 (ji12))))))) x12_1 x15_2 x12_1 x15_2 (wrap64 (x18_3 + 1))) else (none)) else (none)) = some r := by first | (rw [hji12] at H; exact H) | (simp only [hji12] at H ⊢; exact H)
             (try rw [hji12] at A11)
             have hji12w : (IntKind.i64.wrap ((wrap64 (8 * x12_1)) + x18_3)) = ji12 := (i64_w _).trans hji12
             by_cases c13 : 0 ≤ (ji12)
             ·rw [if_pos c13] at H
              have c13b0 := decide_eq_true c13
              clear c13
              by_cases c14 : (ji12) < (l0.length : Int)
              ·rw [if_pos c14] at H
               have c14b0 := decide_eq_true c14
               clear c14
               obtain ⟨y461, hy461⟩ : ∃ y_ : List Int, y_ = (x3_3.set ((ji8) : Int).toNat (wrap64 ((rd x3_3 (ji8)) + (wrap64 (t459 * (rd l0 (ji12))))))) := ⟨_, rfl⟩
               replace H : (impl_sums.l2 k3 l0 y461 x12_1 x15_2 x12_1 x15_2 (wrap64 (x18_3 + 1))) = some r := by subst hy461; exact H
               have Ny461 := Aside0.mk hy461
               clear hy461
               have H' := Aside0.mk H
               clear H
               try go_wp2
               replace HO_3 := Aside0.mk (Kd.R_drew HO_3.out)
               replace HB := Aside0.mk (below_drew1 HB.out)
               obtain ⟨Ao17, co17, eo17⟩ := Kd.R_slice HO_3.out
               (first | subst eo17 | (injection eo17 with f1_ f2_ f3_; have f4_ := f1_.symm; have f5_ := f3_.symm; clear f1_ f2_ f3_; subst f4_; subst f5_))
               have p458 : 0 ≤ ((ji8) : Int) := od
               have q458 : (ji8) < (x3_3.length : Int) := od
               obtain ⟨ad458, e458, hx458_0⟩ := Kd.at_int (Kd.R_reads' HO_3.out).2.2 (ji8) p458 q458
               cases e458
               replace p458 := eq_true p458
               replace q458 := eq_true q458
               have p460 : 0 ≤ ((ji12) : Int) := od
               have q460 : (ji12) < (l0.length : Int) := od
               obtain ⟨ad460, e460, hx460_0⟩ := Kd.at_int HR0.out (ji12) p460 q460
               have hw460_0 := hx460_0
               cases e460
               replace hx460_0 := (HB.out.cell (World.block_lt_of_cell? w _ hx460_0)).trans hx460_0
               replace p460 := eq_true p460
               replace q460 := eq_true q460
               refine start_ (n := 26) (S := fun w' => w'.cell? (ad458.add ((ji8)).toNat) = some (.int .i64 (rd x3_3 (ji8))) ∧ w'.cell? (ad460.add ((ji12)).toNat) = some (.int .i64 (rd l0 (ji12)))) (ds := [25]) (ba 26 0) (by kernel_rfl) rfl rfl ⟨hx458_0, (hcl HB hw460_0)⟩ (fun hHeld => ?_); refine with_tabW impl_sums.tab11 impl_sums.bits11 (fun HT_ HW_ => ?_)
               generalize wr.drew = w16 at HO_3 HB hx458_0 hx460_0 hHeld ⊢
               refine pu 0 21 (ba 26 1) ?_
               refine pu 1 22 (ba 26 3) ?_
               refine pu 2 23 (ba 26 7) ?_
               refine pu 3 24 (ba 26 15) ?_
               refine pu 4 25 (ba 26 31) ?_
               refine pu 5 26 (ba 26 63) ?_
               refine pu 6 27 (ba 26 127) ?_
               refine pu 7 28 (ba 26 255) ?_
               refine pu 8 29 (ba 26 511) ?_
               refine pu 9 30 (ba 26 1023) ?_
               refine pu 10 31 (ba 26 2047) ?_
               refine pu 12 33 (ba 26 6143) ?_
               refine pu 13 34 (ba 26 14335) ?_
               refine pu 15 36 (ba 26 47103) ?_
               refine pu 16 37 (ba 26 112639) ?_
               refine pu 17 38 (ba 26 243711) ?_
               refine pu 18 39 (ba 26 505855) ?_
               refine pu 19 40 (ba 26 1030143) ?_
               refine pu 20 41 (ba 26 2078719) ?_
               refine tk 11 32 (ba 26 2080767) hHeld ?_
               refine tk 21 42 (ba 26 4177919) hHeld ?_
               refine on 14 35 (ba 26 4194303) (fun K hK => ?_)
               refine gS Try.func165 #[.int .i64 x15_2, .int .i64 x18_3] ?_
               with_reducible refine (impl_SignOf.calls k3 x15_2 x18_3 t459 _ A11.out).mono ?_
               rintro e w' ⟨rfl, ⟨nd, rfl⟩⟩
               refine ⟨_, rfl, ?_⟩
               have p15 : 0 ≤ ((ji8) : Int) := od
               have q15 : ((ji8) : Int) < ((x3_3.length : Int) : Int) := od
               obtain ⟨go15, co15, eo15, gb15, gl15, cl15, HG15⟩ := Kd.R_form HO_3.out (by omega)
               (first | cases eo15 | (injection eo15 with ea_ en_ ec_; (first | subst ea_ | (injection ea_ with ea_; subst ea_)); subst ec_; clear en_))
               have GB15 := Aside0.mk gb15
               have GG15 := Aside0.mk HG15
               clear gb15 gl15 HG15
               (first | simp only [add_plain] at hx458_0 | skip)
               obtain ⟨hx15_0, hf15_0⟩ := Kd.R_celln 0 HO_3.out ((ji8) : Int) p15 q15
               replace p15 := eq_true p15
               replace q15 := eq_true q15
               have HP18 := Kd.R_putn HO_3.out ((ji8) : Int) (wrap64 ((rd x3_3 (ji8)) + (wrap64 (t459 * (rd l0 (ji12))))))
               rw [← Ny461.out] at HP18
               have HQ18 := Aside0.mk HP18
               clear HP18
               refine hK.out _ _ ⟨hHeld.1, (hcl HB hw460_0)⟩ (fun hHeld => ?_)
               clear hK K
               refine nm ?_
               refine pu 22 43 (ba 26 8388607) ?_
               refine pu 23 44 (ba 26 16777215) ?_
               refine pu 24 45 (ba 26 33554431) ?_
               refine last_ (i := 25) (N := none) (ba 26 67108863) rfl rfl (one_of HT_.out (by kernel_rfl)) (by decide) (fun K hK => ?_)
               refine skip_ (w1 := ?_) (by rfl) rfl ?_ ?_
               rotate_left
               ·go_simp
                rfl
               refine hK.out _ _ ?_
               clear hK K
               refine done_ (done_of HT_.out (by kernel_rfl)) ?_
               try go_wp2
               go_roundg k3
               case measure => have := HK1.out; have := HK2.out; have := HK3.out; omega
               case rel => exact ⟨(y461), (wrap64 (x18_3 + 1)), rv, H', ⟨by have := HK1.out; have := HK2.out; have := HK3.out; omega⟩, (ra HQ18.out), bh HB⟩
              ·rw [if_neg c14] at H
               exact absurd H (by simp)
             ·rw [if_neg c13] at H
              exact absurd H (by simp)
            ·rw [if_neg c10] at H
             exact absurd H (by simp)
           ·rw [if_neg c9] at H
            exact absurd H (by simp)
          ·rw [if_neg c7] at H
           have c7b0 := decide_eq_false c7
           clear c7
           have H' := Aside0.mk H
           clear H
           go_wp2
           go_roundg k3
           case measure => have := HK1.out; have := HK2.out; have := HK3.out; omega
           case rel => exact ⟨(x3_3), (wrap64 (x15_2 + 1)), rv, H', ⟨by have := HK1.out; have := HK2.out; have := HK3.out; omega⟩, (ra HO_3.out), bh HB⟩
       ·rw [if_neg c6] at H
        have c6b0 := decide_eq_false c6
        clear c6
        have H' := Aside0.mk H
        clear H
        go_wp2
        go_roundg k2
        case measure => have := HK1.out; have := HK2.out; omega
        case rel => exact ⟨(x3_2), (wrap64 (x12_1 + 1)), rv, H', ⟨by have := HK1.out; have := HK2.out; omega⟩, (ra HO_3.out), bh HB⟩
    ·rw [if_neg c5] at H
     have c5b0 := decide_eq_false c5
     clear c5
     by_cases c19 : 64 ≤ 35184372088832
     ·rw [if_pos c19] at H
      have c19b0 := eq_true c19
      have c19b1 := decide_eq_true c19
      clear c19
      obtain ⟨y462, hy462⟩ : ∃ y_ : List Int, y_ = (List.replicate 64 0) := ⟨_, rfl⟩
      replace H : (impl_sums.l3 k1 x3_1 y462 0) = some r := by subst hy462; exact H
      have Ny462 := Aside0.mk hy462
      clear hy462
      have H' := Aside0.mk H
      clear H
      go_wp2_with (first | ((with_reducible refine gate_dst (N := 49) rfl ?_); refine Kd.R_make (Kd.int .i64) _ 3 rfl (N := 49) rfl 35 _ _ rfl 64 rfl rfl Try.underlying35 (.int .i64 0) 8 info3 rfl (by decide) (by omega) 0 (ok := fun _ => True) (okp := fun _ => True) rfl (fun _ hk => hk) trivial (by omega) (by omega) (Below.refl _ _) (Nat.le_refl _) ?_; intro v463 w20 ho21 hb hg_ hnew_; clear hg_ hnew_; (first | rw [← Ny462.out] at ho21 | (simp only [Int.reduceToNat] at ho21; rw [← Ny462.out] at ho21)); have HO464 := Aside0.mk (Kd.R_lower (Kd.R_new' ho21 (Kd.R_lt (ro HO_3.out))) (below_size (bo HB))); replace HO_3 := Aside0.mk (Kd.R_elder' (ro HO_3.out) (Kd.R_base ho21) hb); replace HB := bs HB hb; clear hb ho21))
      go_loopg [50] k1 (fun kq v50 w' => ∃ (x7_2 : List Int) (x50_2 : Int), v50 = .int .i64 x50_2 ∧ Aside0 (impl_sums.l3 kq x3_1 x7_2 x50_2 = some r) ∧ Aside0 (kq ≤ k1) ∧ Aside0 (Kd.R (Kd.int .i64) 3 w' w.heap.size (fun k_ => some k_ ≠ (v463 : Value).ownBlock) v456 x3_1) ∧ Aside0 (Kd.R (Kd.int .i64) 3 w' w.heap.size (fun k_ => some k_ ≠ (v456 : Value).ownBlock) v463 x7_2) ∧ Aside0 (Below w.heap.size w w'))
      case atStart => exact ⟨(y462), (0), rv, H', ⟨Nat.le_refl _⟩, (ra (Kd.R_mono HO_3.out (fun _ hk => hk.2))), (ra (Kd.R_mono HO464.out (fun _ hk => hk.2))), bh HB⟩
      case round =>
       clear H'
       try clear q1
       try clear hx1
       try clear hf1
       try clear q4
       try clear hx4
       try clear q15
       try clear hx15
       try clear hf15
       try clear hx15_0
       try clear hx458_0
       try clear hx460_0
       try clear q15
       try clear q458
       try clear q460
       obtain ⟨x7_2, x50_2, rfl, HA, HK2, HO_3, HO_7, HB⟩ := hrel
       cases gk with
       | zero => exact absurd HA.out (by simp [impl_sums.l3])
       | succ k2 =>
        have H := HA.out
        clear HA
        simp only [impl_sums.l3] at H
        by_cases c22 : x50_2 < 8
        ·rw [if_pos c22] at H
         have c22b0 := decide_eq_true c22
         clear c22
         have H' := Aside0.mk H
         clear H
         go_wp2
         go_loopg [53] k2 (fun kq v53 w' => ∃ (x7_3 : List Int) (x53_3 : Int), v53 = .int .i64 x53_3 ∧ Aside0 (impl_sums.l4 kq x3_1 x7_3 x50_2 x50_2 x53_3 = some r) ∧ Aside0 (kq ≤ k2) ∧ Aside0 (Kd.R (Kd.int .i64) 3 w' w.heap.size (fun k_ => some k_ ≠ (v463 : Value).ownBlock) v456 x3_1) ∧ Aside0 (Kd.R (Kd.int .i64) 3 w' w.heap.size (fun k_ => some k_ ≠ (v456 : Value).ownBlock) v463 x7_3) ∧ Aside0 (Below w.heap.size w w'))
         case atStart => exact ⟨(x7_2), (0), rv, H', ⟨Nat.le_refl _⟩, (ra HO_3.out), (ra HO_7.out), bh HB⟩
         case round =>
          clear H'
          try clear q1
          try clear hx1
          try clear hf1
          try clear q4
          try clear hx4
          try clear q15
          try clear hx15
          try clear hf15
          try clear hx15_0
          try clear hx458_0
          try clear hx460_0
          try clear q1
          try clear q15
          try clear q4
          try clear q458
          try clear q460
          obtain ⟨x7_3, x53_3, rfl, HA, HK3, HO_3, HO_7, HB⟩ := hrel
          cases gk with
          | zero => exact absurd HA.out (by simp [impl_sums.l4])
          | succ k3 =>
           have H := HA.out
           clear HA
           simp only [impl_sums.l4] at H
           by_cases c23 : x53_3 < 8
           ·rw [if_pos c23] at H
            have c23b0 := decide_eq_true c23
            clear c23
            have H' := Aside0.mk H
            clear H
            go_wp2
            go_loopg [56] k3 (fun kq v56 w' => ∃ (x7_4 : List Int) (x56_4 : Int), v56 = .int .i64 x56_4 ∧ Aside0 (impl_sums.l5 kq x3_1 x7_4 x50_2 x53_3 x50_2 x53_3 x56_4 = some r) ∧ Aside0 (kq ≤ k3) ∧ Aside0 (Kd.R (Kd.int .i64) 3 w' w.heap.size (fun k_ => some k_ ≠ (v463 : Value).ownBlock) v456 x3_1) ∧ Aside0 (Kd.R (Kd.int .i64) 3 w' w.heap.size (fun k_ => some k_ ≠ (v456 : Value).ownBlock) v463 x7_4) ∧ Aside0 (Below w.heap.size w w'))
            case atStart => exact ⟨(x7_3), (0), rv, H', ⟨Nat.le_refl _⟩, (ra HO_3.out), (ra HO_7.out), bh HB⟩
            case round =>
             clear H'
             try clear q1
             try clear hx1
             try clear hf1
             try clear q4
             try clear hx4
             try clear q15
             try clear hx15
             try clear hf15
             try clear hx15_0
             try clear hx458_0
             try clear hx460_0
             try clear q1
             try clear q15
             try clear q4
             try clear q458
             try clear q460
             obtain ⟨x7_4, x56_4, rfl, HA, HK4, HO_3, HO_7, HB⟩ := hrel
             cases gk with
             | zero => exact absurd HA.out (by simp [impl_sums.l5])
             | succ k4 =>
              have H := HA.out
              clear HA
              simp only [impl_sums.l5] at H
              by_cases c24 : x56_4 < 8
              ·rw [if_pos c24] at H
               have c24b0 := decide_eq_true c24
               clear c24
               obtain ⟨ji25, hji25⟩ : ∃ j_ : Int, (wrap64 ((wrap64 (8 * x50_2)) + x53_3)) = j_ := ⟨_, rfl⟩
               replace H : (if 0 ≤ (ji25) then (if (ji25) < (x7_4.length : Int) then ((impl_SignOf.f k4 x50_2 x56_4).bind fun t466 => (if 0 ≤ (wrap64 ((wrap64 (8 * x56_4)) + x53_3)) then (if (wrap64 ((wrap64 (8 * x56_4)) + x53_3)) < (x3_1.length : Int) then (impl_sums.l5 k4 x3_1 (x7_4.set ((ji25) : Int).toNat (wrap64 ((rd x7_4 (ji25)) + (wrap64 (t466 * (rd x3_1 (wrap64 ((wrap64 (8 * x56_4)) + x53_3)))))))) x50_2 x53_3 x50_2 x53_3 (wrap64 (x56_4 + 1))) else (none)) else (none))) else (none)) else (none)) = some r := by first | (rw [hji25] at H; exact H) | (simp only [hji25] at H ⊢; exact H)
               have hji25w : (IntKind.i64.wrap ((wrap64 (8 * x50_2)) + x53_3)) = ji25 := (i64_w _).trans hji25
               by_cases c26 : 0 ≤ (ji25)
               ·rw [if_pos c26] at H
                have c26b0 := decide_eq_true c26
                clear c26
                by_cases c27 : (ji25) < (x7_4.length : Int)
                ·rw [if_pos c27] at H
                 have c27b0 := decide_eq_true c27
                 clear c27
                 replace H := bnd H
                 obtain ⟨t466, A28, H⟩ := H
                 obtain ⟨ji29, hji29⟩ : ∃ j_ : Int, (wrap64 ((wrap64 (8 * x56_4)) + x53_3)) = j_ := ⟨_, rfl⟩
                 replace H : (if 0 ≤ (ji29) then (if (ji29) < (x3_1.length : Int) then (impl_sums.l5 k4 x3_1 (x7_4.set ((ji25) : Int).toNat (wrap64 ((rd x7_4 (ji25)) + (wrap64 (t466 * (rd x3_1 (ji29))))))) x50_2 x53_3 x50_2 x53_3 (wrap64 (x56_4 + 1))) else (none)) else (none)) = some r := by first | (rw [hji29] at H; exact H) | (simp only [hji29] at H ⊢; exact H)
                 (try rw [hji29] at A28)
                 have hji29w : (IntKind.i64.wrap ((wrap64 (8 * x56_4)) + x53_3)) = ji29 := (i64_w _).trans hji29
                 by_cases c30 : 0 ≤ (ji29)
                 ·rw [if_pos c30] at H
                  have c30b0 := decide_eq_true c30
                  clear c30
                  by_cases c31 : (ji29) < (x3_1.length : Int)
                  ·rw [if_pos c31] at H
                   have c31b0 := decide_eq_true c31
                   clear c31
                   obtain ⟨y468, hy468⟩ : ∃ y_ : List Int, y_ = (x7_4.set ((ji25) : Int).toNat (wrap64 ((rd x7_4 (ji25)) + (wrap64 (t466 * (rd x3_1 (ji29))))))) := ⟨_, rfl⟩
                   replace H : (impl_sums.l5 k4 x3_1 y468 x50_2 x53_3 x50_2 x53_3 (wrap64 (x56_4 + 1))) = some r := by subst hy468; exact H
                   have Ny468 := Aside0.mk hy468
                   clear hy468
                   have H' := Aside0.mk H
                   clear H
                   try go_wp2
                   replace HO_3 := Aside0.mk (Kd.R_drew HO_3.out)
                   replace HO_7 := Aside0.mk (Kd.R_drew HO_7.out)
                   replace HB := Aside0.mk (below_drew1 HB.out)
                   obtain ⟨Ao34, co34, eo34⟩ := Kd.R_slice HO_7.out
                   (first | subst eo34 | (injection eo34 with f1_ f2_ f3_; have f4_ := f1_.symm; have f5_ := f3_.symm; clear f1_ f2_ f3_; subst f4_; subst f5_))
                   have p465 : 0 ≤ ((ji25) : Int) := od
                   have q465 : (ji25) < (x7_4.length : Int) := od
                   obtain ⟨ad465, e465, hx465_0⟩ := Kd.at_int (Kd.R_reads' HO_7.out).2.2 (ji25) p465 q465
                   cases e465
                   replace p465 := eq_true p465
                   replace q465 := eq_true q465
                   obtain ⟨Ao35, co35, eo35⟩ := Kd.R_slice HO_3.out
                   (first | subst eo35 | (injection eo35 with f1_ f2_ f3_; have f4_ := f1_.symm; have f5_ := f3_.symm; clear f1_ f2_ f3_; subst f4_; subst f5_))
                   have p467 : 0 ≤ ((ji29) : Int) := od
                   have q467 : (ji29) < (x3_1.length : Int) := od
                   obtain ⟨ad467, e467, hx467_0⟩ := Kd.at_int (Kd.R_reads' HO_3.out).2.2 (ji29) p467 q467
                   cases e467
                   replace p467 := eq_true p467
                   replace q467 := eq_true q467
                   refine start_ (n := 26) (S := fun w' => w'.cell? (ad465.add ((ji25)).toNat) = some (.int .i64 (rd x7_4 (ji25))) ∧ w'.cell? (ad467.add ((ji29)).toNat) = some (.int .i64 (rd x3_1 (ji29)))) (ds := [25]) (ba 26 0) (by kernel_rfl) rfl rfl ⟨hx465_0, hx467_0⟩ (fun hHeld => ?_); refine with_tabW impl_sums.tab25 impl_sums.bits25 (fun HT_ HW_ => ?_)
                   generalize wr.drew = w33 at HO_3 HO_7 HB hx465_0 hx467_0 hHeld ⊢
                   refine pu 0 59 (ba 26 1) ?_
                   refine pu 1 60 (ba 26 3) ?_
                   refine pu 2 61 (ba 26 7) ?_
                   refine pu 3 62 (ba 26 15) ?_
                   refine pu 4 63 (ba 26 31) ?_
                   refine pu 5 64 (ba 26 63) ?_
                   refine pu 6 65 (ba 26 127) ?_
                   refine pu 7 66 (ba 26 255) ?_
                   refine pu 8 67 (ba 26 511) ?_
                   refine pu 9 68 (ba 26 1023) ?_
                   refine pu 10 69 (ba 26 2047) ?_
                   refine pu 12 71 (ba 26 6143) ?_
                   refine pu 13 72 (ba 26 14335) ?_
                   refine pu 15 74 (ba 26 47103) ?_
                   refine pu 16 75 (ba 26 112639) ?_
                   refine pu 17 76 (ba 26 243711) ?_
                   refine pu 18 77 (ba 26 505855) ?_
                   refine pu 19 78 (ba 26 1030143) ?_
                   refine pu 20 79 (ba 26 2078719) ?_
                   refine tk 11 70 (ba 26 2080767) hHeld ?_
                   refine tk 21 80 (ba 26 4177919) hHeld ?_
                   refine on 14 73 (ba 26 4194303) (fun K hK => ?_)
                   refine gS Try.func165 #[.int .i64 x50_2, .int .i64 x56_4] ?_
                   with_reducible refine (impl_SignOf.calls k4 x50_2 x56_4 t466 _ A28.out).mono ?_
                   rintro e w' ⟨rfl, ⟨nd, rfl⟩⟩
                   refine ⟨_, rfl, ?_⟩
                   have p32 : 0 ≤ ((ji25) : Int) := od
                   have q32 : ((ji25) : Int) < ((x7_4.length : Int) : Int) := od
                   obtain ⟨go32, co32, eo32, gb32, gl32, cl32, HG32⟩ := Kd.R_form HO_7.out (by omega)
                   (first | cases eo32 | (injection eo32 with ea_ en_ ec_; (first | subst ea_ | (injection ea_ with ea_; subst ea_)); subst ec_; clear en_))
                   have GB32 := Aside0.mk gb32
                   have GG32 := Aside0.mk HG32
                   clear gb32 gl32 HG32
                   (first | simp only [add_plain] at hx465_0 | skip)
                   obtain ⟨hx32_0, hf32_0⟩ := Kd.R_celln 0 HO_7.out ((ji25) : Int) p32 q32
                   replace p32 := eq_true p32
                   replace q32 := eq_true q32
                   have HP36 := Kd.R_putn HO_7.out ((ji25) : Int) (wrap64 ((rd x7_4 (ji25)) + (wrap64 (t466 * (rd x3_1 (ji29))))))
                   rw [← Ny468.out] at HP36
                   have HQ36 := Aside0.mk HP36
                   clear HP36
                   refine hK.out _ _ ⟨hHeld.1, hHeld.2⟩ (fun hHeld => ?_)
                   clear hK K
                   refine nm ?_
                   refine pu 22 81 (ba 26 8388607) ?_
                   refine pu 23 82 (ba 26 16777215) ?_
                   refine pu 24 83 (ba 26 33554431) ?_
                   refine last_ (i := 25) (N := none) (ba 26 67108863) rfl rfl (one_of HT_.out (by kernel_rfl)) (by decide) (fun K hK => ?_)
                   refine skip_ (w1 := ?_) (by rfl) rfl ?_ ?_
                   rotate_left
                   ·go_simp
                    rfl
                   refine hK.out _ _ ?_
                   clear hK K
                   refine done_ (done_of HT_.out (by kernel_rfl)) ?_
                   try go_wp2
                   go_roundg k4
                   case measure => have := HK1.out; have := HK2.out; have := HK3.out; have := HK4.out; omega
                   case rel => exact ⟨(y468), (wrap64 (x56_4 + 1)), rv, H', ⟨by have := HK1.out; have := HK2.out; have := HK3.out; have := HK4.out; omega⟩, (ra (Kd.R_mono (Kd.R_far (p := ⟨go32, ((ji25) : Int).toNat, none⟩) (Kd.R_mono HO_3.out (fun k_ hk => (⟨hk, fun e_ => hk (by rw [e_]; rfl)⟩ : _ ∧ k_ ≠ go32))) (fun _ hk => hk.2) (.int .i64 (wrap64 ((rd x7_4 (ji25)) + (wrap64 (t466 * (rd x3_1 (ji29)))))))) (fun _ hk => hk.1))), (ra HQ36.out), bh HB⟩
                  ·rw [if_neg c31] at H
                   exact absurd H (by simp)
                 ·rw [if_neg c30] at H
                  exact absurd H (by simp)
                ·rw [if_neg c27] at H
                 exact absurd H (by simp)
               ·rw [if_neg c26] at H
                exact absurd H (by simp)
              ·rw [if_neg c24] at H
               have c24b0 := decide_eq_false c24
               clear c24
               have H' := Aside0.mk H
               clear H
               go_wp2
               go_roundg k4
               case measure => have := HK1.out; have := HK2.out; have := HK3.out; have := HK4.out; omega
               case rel => exact ⟨(x7_4), (wrap64 (x53_3 + 1)), rv, H', ⟨by have := HK1.out; have := HK2.out; have := HK3.out; have := HK4.out; omega⟩, (ra HO_3.out), (ra HO_7.out), bh HB⟩
           ·rw [if_neg c23] at H
            have c23b0 := decide_eq_false c23
            clear c23
            have H' := Aside0.mk H
            clear H
            go_wp2
            go_roundg k3
            case measure => have := HK1.out; have := HK2.out; have := HK3.out; omega
            case rel => exact ⟨(x7_3), (wrap64 (x50_2 + 1)), rv, H', ⟨by have := HK1.out; have := HK2.out; have := HK3.out; omega⟩, (ra HO_3.out), (ra HO_7.out), bh HB⟩
        ·rw [if_neg c22] at H
         have c22b0 := decide_eq_false c22
         clear c22
         obtain rfl := Option.some.inj H
         go_wp2
         go_ret
         exact ⟨_, re, ro (Kd.R_mono HO_7.out (fun _ hk => trivial)), bo HB⟩
     ·rw [if_neg c19] at H
      exact absurd H (by simp)
 ·rw [if_neg c2] at H
  exact absurd H (by simp)

end Go.Proofs.Ytnaccgommclhaaa.QFnExactSquareDots
