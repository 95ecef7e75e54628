/- What the law reaches, as plain functions, each with the proof that its call comes to its answer: written by a program for this claim. -/
import Derived.Test.YtnaccgommclhaaaQFnExactSquareDotsx0
import Derived.Test.YtnaccgommclhaaaQFnExactSquareDotsx14
import Derived.Test.YtnaccgommclhaaaQFnExactSquareDotsx15
import Derived.Test.YtnaccgommclhaaaUFnExactSquareDotsV5
namespace Go.Proofs.Ytnaccgommclhaaa.QFnExactSquareDots
open Go.RowKit Go.Proofs.YtnaccgommclhaaaW.PrintWords Go.Proofs.YtnaccgommclhaaaW.PrintLast Go.Proofs.YtnaccgommclhaaaW.PrintMore Go.Proofs.YtnaccgommclhaaaV
attribute [local go_sem] max2_int min2_int max_two min_two max_three min_three max_four min_four   -- for this text's walks alone
set_option linter.unusedVariables false
set_option linter.unusedSimpArgs false
set_option maxHeartbeats 8000000
set_option maxRecDepth 100000

mutual
def impl_Unscanned.j0 : Nat → Int → List Int → Bool → Option (List Int × Bool)
 | 0, _, _, _ => none
 | k + 1, x0, x1, x22 => if x22 = true then (some ((([] : List Int)), false)) else (if 0 ≤ (x1.length : Int) then (if ((x1.length : Int) : Int).toNat ≤ 35184372088832 then ((impl_scanOrder.f k x0).bind fun t437 => (impl_Unscanned.l0 k x1 (List.replicate ((x1.length : Int) : Int).toNat 0) t437 (t437.length : Int) 0)) else (none)) else (none))
def impl_Unscanned.l0 : Nat → List Int → List Int → List Int → Int → Int → Option (List Int × Bool)
 | 0, _, _, _, _, _ => none
 | k + 1, x1, x6, x28, x29, x30 => if x30 < x29 then (if 0 ≤ x30 then (if x30 < (x28.length : Int) then (if x30 < (x1.length : Int) then (if 0 ≤ (rd x28 x30) then (if (rd x28 x30) < (x6.length : Int) then (impl_Unscanned.l0 k x1 (x6.set ((rd x28 x30) : Int).toNat (rd x1 x30)) x28 x29 (wrap64 (x30 + 1))) else (none)) else (none)) else (none)) else (none)) else (none)) else (some (x6, true))
end
def impl_Unscanned.f (k : Nat) (a0 : Int) (l1 : List Int) : Option (List Int × Bool) := if a0 = 4 then (impl_Unscanned.j0 k a0 l1 ((l1.length : Int) != (wrap64 (a0 * a0)))) else (if a0 = 8 then (impl_Unscanned.j0 k a0 l1 ((l1.length : Int) != (wrap64 (a0 * a0)))) else (impl_Unscanned.j0 k a0 l1 true))
theorem impl_Unscanned.calls (k : Nat) (a0 : Int) (A1 : Option Addr) (c1 : Nat) (l1 : List Int) (r1 : List Int) (r2 : Bool) (w : World) (hr1 : Kd.C (Kd.int .i64) w A1 l1.length l1) (hc1 : l1.length ≤ c1) (h : impl_Unscanned.f k a0 l1 = some (r1, r2)) :
  Calls Try.prog 113 #[.int .i64 a0, .slice A1 l1.length c1] w fun e w' => ∃ v0_ : Value, e = .returned (.tuple #[v0_, .bool r2]) ∧ Kd.R (Kd.int .i64) 3 w' w.heap.size (fun _ => True) v0_ r1 ∧ Below w.heap.size w w' := by
 have HR1 := Aside0.mk hr1
 have HC1 := Aside0.mk hc1
 clear hr1 hc1
 have HB := Aside0.mk (Below.refl w.heap.size w)
 have H := h
 clear h
 unfold impl_Unscanned.f at H
 have HC3 := Aside0.mk H
 clear H
 go_enter Try.func113, Try.ntmps113
 go_upto_region 1 with (fail)
 go_cut [22] (fun v22 wc => ∃ (kq : Nat) (x22_2 : Bool), v22 = .bool x22_2 ∧ Aside0 (impl_Unscanned.j0 kq a0 l1 x22_2 = some (r1, r2)) ∧ Aside0 (kq ≤ k) ∧ Aside0 (Below w.heap.size w wc))
 case first =>
  have H := HC3.out
  clear HC3
  by_cases c4 : a0 = 4
  ·rw [if_pos c4] at H
   obtain ⟨c4b0, c4b1⟩ := eqt c4
   clear c4
   (first | rw [c4b0] | (simp only [i64_w, i32_w]; rw [c4b0]) | skip)
   have H' := Aside0.mk H
   clear H
   go_wp2
   go_meet
   case rel => exact ⟨_, (((l1.length : Int) != (wrap64 (a0 * a0)))), rv, H', om, bh HB⟩
  ·rw [if_neg c4] at H
   obtain ⟨c4b0, c4b1⟩ := eqf c4
   (first | rw [c4b0] | (simp only [i64_w, i32_w]; rw [c4b0]) | skip)
   by_cases c5 : a0 = 8
   ·rw [if_pos c5] at H
    obtain ⟨c5b0, c5b1⟩ := eqt c5
    clear c5
    have H' := Aside0.mk H
    clear H
    go_wp2
    go_meet
    case rel => exact ⟨_, (((l1.length : Int) != (wrap64 (a0 * a0)))), rv, H', om, bh HB⟩
   ·rw [if_neg c5] at H
    obtain ⟨c5b0, c5b1⟩ := eqf c5
    have H' := Aside0.mk H
    clear H
    go_wp2
    go_meet
    case rel => exact ⟨_, (true), rv, H', om, bh HB⟩
 case rest =>
  clear HC3
  obtain ⟨kq, x22_2, rfl, HA, HJ2, HB⟩ := hcut
  cases kq with
  | zero => exact absurd HA.out (by simp [impl_Unscanned.j0])
  | succ kj2 =>
   have H := HA.out
   clear HA
   simp only [impl_Unscanned.j0] at H
   by_cases c6 : x22_2 = true
   ·subst c6
    rw [if_pos rfl] at H
    obtain ⟨y431, hy431⟩ : ∃ y_ : List Int, y_ = (([] : List Int)) := ⟨_, rfl⟩
    replace H : (some (y431, false)) = some (r1, r2) := by subst hy431; exact H
    have Ny431 := Aside0.mk hy431
    clear hy431
    simp only [Option.some.injEq, Prod.mk.injEq] at H
    obtain ⟨rfl, rfl⟩ := H
    go_wp2_with (first | ((with_reducible refine gate_dst (N := 23) rfl ?_); (try (refine gate_guard (by rfl) ?_; dsimp only)); refine Kd.R_lit (Kd.int .i64) _ 3 ?hg (N := 23) ?hd (xs := ([] : List Int)) (inner := []) (ok := fun _ => True) (okp := fun _ => True) ?hr ?hp (fun _ hk => hk) trivial (Below.refl _ _) (Nat.le_refl _) (by simp) ?_; (case hd => rfl); (case hg => rfl); (case hr => first | (go_simp; done) | (go_simp; rfl)); (case hp => exact (Reps.none _ _)); intro v432 w7 ho8 hb hg_ hnew_; clear hg_ hnew_; (first | rw [← Ny431.out] at ho8 | (simp only [Int.reduceToNat] at ho8; rw [← Ny431.out] at ho8)); have HO433 := Aside0.mk (Kd.R_lower ho8 (below_size (bo HB))); replace HB := bs HB hb; clear hb ho8))
    go_ret2
    exact ⟨_, re, ro HO433.out, bo HB⟩
   ·replace c6 := Bool.eq_false_iff.mpr c6
    subst c6
    rw [if_neg nft] at H
    by_cases c9 : 0 ≤ (l1.length : Int)
    ·rw [if_pos c9] at H
     have c9b0 := eq_true c9
     have c9b1 := decide_eq_true c9
     clear c9
     by_cases c10 : ((l1.length : Int) : Int).toNat ≤ 35184372088832
     ·rw [if_pos c10] at H
      have c10b0 := eq_true c10
      have c10b1 := decide_eq_true c10
      clear c10
      obtain ⟨y434, hy434⟩ : ∃ y_ : List Int, y_ = (List.replicate ((l1.length : Int) : Int).toNat 0) := ⟨_, rfl⟩
      replace H : ((impl_scanOrder.f kj2 a0).bind fun t437 => (impl_Unscanned.l0 kj2 l1 y434 t437 (t437.length : Int) 0)) = some (r1, r2) := by subst hy434; exact H
      have Ny434 := Aside0.mk hy434
      clear hy434
      replace H := bnd H
      obtain ⟨t437, A11, H⟩ := H
      have H' := Aside0.mk H
      clear H
      go_wp2_with (first | ((with_reducible refine gate_dst (N := 26) rfl ?_); (try (refine gate_guard (by rfl) ?_; dsimp only)); refine Kd.R_make (Kd.int .i64) _ 3 rfl (N := 26) rfl 35 _ _ rfl (l1.length : Int) rfl rfl Try.underlying35 (.int .i64 0) 8 info3 rfl (by decide) (by omega) 0 (ok := fun _ => True) (okp := fun _ => True) rfl (fun _ hk => hk) trivial (od) (Nat.le_trans (Nat.mul_le_mul_right _ (od : (l1.length : Int).toNat ≤ 35184372088832)) (by omega)) (Below.refl _ _) (Nat.le_refl _) ?_; intro v435 w12 ho13 hb hg_ hnew_; clear hg_ hnew_; (first | rw [← Ny434.out] at ho13 | (simp only [Int.reduceToNat] at ho13; rw [← Ny434.out] at ho13)); have HO436 := Aside0.mk (Kd.R_lower ho13 (below_size (bo HB))); replace HB := bs HB hb; clear hb ho13) | ((with_reducible refine gate_callee (f := 148) rfl ?_); refine gL (some 28) Try.func148 #[.int .i64 a0] ?_; (with_reducible refine (impl_scanOrder.calls kj2 a0 t437 _ A11.out).mono ?_); rintro e w14 ⟨v438, rfl, ho0, hb⟩; refine ⟨_, rfl, ?_⟩; have HO439 := Aside0.mk (Kd.R_lower (Kd.R_new' ho0 (Kd.R_lt (ro HO436.out))) (below_size (bo HB))); replace HO436 := Aside0.mk (Kd.R_elder' (ro HO436.out) (Kd.R_base ho0) hb); replace HB := bs HB hb; (try clear hb); (try clear ho0); obtain ⟨Ao15, co15, eo15⟩ := Kd.R_slice HO439.out; subst eo15))
      go_loopg [30] kj2 (fun kq v30 w' => ∃ (x6_2 : List Int) (x30_2 : Int), v30 = .int .i64 x30_2 ∧ Aside0 (impl_Unscanned.l0 kq l1 x6_2 t437 (t437.length : Int) x30_2 = some (r1, r2)) ∧ Aside0 (kq ≤ kj2) ∧ Aside0 (Kd.R (Kd.int .i64) 3 w' w.heap.size (fun k_ => some k_ ≠ ((.slice Ao15 t437.length co15) : Value).ownBlock) v435 x6_2) ∧ Aside0 (Kd.R (Kd.int .i64) 3 w' w.heap.size (fun k_ => some k_ ≠ (v435 : Value).ownBlock) (.slice Ao15 t437.length co15) t437) ∧ Aside0 (Below w.heap.size w w'))
      case atStart => exact ⟨(y434), (0), rv, H', ⟨Nat.le_refl _⟩, (ra (Kd.R_mono HO436.out (fun _ hk => hk.2))), (ra (Kd.R_mono HO439.out (fun _ hk => hk.2))), bh HB⟩
      case round =>
       clear H'
       obtain ⟨x6_2, x30_2, rfl, HA, HK2, HO_6, HO_28, HB⟩ := hrel
       cases gk with
       | zero => exact absurd HA.out (by simp [impl_Unscanned.l0])
       | succ k2 =>
        have H := HA.out
        clear HA
        simp only [impl_Unscanned.l0] at H
        by_cases c16 : x30_2 < (t437.length : Int)
        ·rw [if_pos c16] at H
         have c16b0 := decide_eq_true c16
         clear c16
         by_cases c17 : 0 ≤ x30_2
         ·rw [if_pos c17] at H
          have c17b0 := decide_eq_true c17
          clear c17
          by_cases c18 : x30_2 < (t437.length : Int)
          ·rw [if_pos c18] at H
           have c18b0 := decide_eq_true c18
           clear c18
           by_cases c19 : x30_2 < (l1.length : Int)
           ·rw [if_pos c19] at H
            have c19b0 := decide_eq_true c19
            clear c19
            by_cases c20 : 0 ≤ (rd t437 x30_2)
            ·rw [if_pos c20] at H
             have c20b0 := decide_eq_true c20
             clear c20
             by_cases c21 : (rd t437 x30_2) < (x6_2.length : Int)
             ·rw [if_pos c21] at H
              have c21b0 := decide_eq_true c21
              clear c21
              obtain ⟨y442, hy442⟩ : ∃ y_ : List Int, y_ = (x6_2.set ((rd t437 x30_2) : Int).toNat (rd l1 x30_2)) := ⟨_, rfl⟩
              replace H : (impl_Unscanned.l0 k2 l1 y442 t437 (t437.length : Int) (wrap64 (x30_2 + 1))) = some (r1, r2) := by subst hy442; exact H
              have Ny442 := Aside0.mk hy442
              clear hy442
              have H' := Aside0.mk H
              clear H
              have p440 : 0 ≤ (x30_2 : Int) := od
              have q440 : x30_2 < (t437.length : Int) := od
              obtain ⟨ad440, e440, hx440_0⟩ := Kd.at_int (Kd.R_reads' HO_28.out).2.2 x30_2 p440 q440
              cases e440
              replace p440 := eq_true p440
              replace q440 := eq_true q440
              have p441 : 0 ≤ (x30_2 : Int) := od
              have q441 : x30_2 < (l1.length : Int) := od
              obtain ⟨ad441, e441, hx441_0⟩ := Kd.at_int HR1.out x30_2 p441 q441
              cases e441
              replace hx441_0 := (HB.out.cell (World.block_lt_of_cell? w _ hx441_0)).trans hx441_0
              replace p441 := eq_true p441
              replace q441 := eq_true q441
              have p22 : 0 ≤ ((rd t437 x30_2) : Int) := od
              have q22 : ((rd t437 x30_2) : Int) < ((x6_2.length : Int) : Int) := od
              obtain ⟨go22, co22, eo22, gb22, gl22, cl22, HG22⟩ := Kd.R_form HO_6.out (by omega)
              (first | cases eo22 | (injection eo22 with ea_ en_ ec_; (first | subst ea_ | (injection ea_ with ea_; subst ea_)); subst ec_; clear en_))
              have GB22 := Aside0.mk gb22
              have GG22 := Aside0.mk HG22
              clear gb22 gl22 HG22
              obtain ⟨hx22_0, hf22_0⟩ := Kd.R_celln 0 HO_6.out ((rd t437 x30_2) : Int) p22 q22
              replace p22 := eq_true p22
              replace q22 := eq_true q22
              have HP23 := Kd.R_putg HO_6.out ((rd t437 x30_2) : Int) (rd l1 x30_2)
              go_wp2_with (first | ((with_reducible refine gate_store (t := 3) (p := 41) rfl ?_); refine store_event (t := 3) (p := 41) (v := ?vo_w24) (w1 := (wr.setCell ⟨go22, ((rd t437 x30_2) : Int).toNat, none⟩ (.int .i64 (rd l1 x30_2)))) ?hg ?ho ?hn ?hr ?_; (case ho => rfl); (case hg => rfl); (case hn => rfl); (case hr => first | (go_simp; done) | (go_simp; rfl)); intro w24 hw; have hg : wr.grownBy w24 (some go22) := (by rw [hw]; exact HP23.2); have hp_ : Kd.R (Kd.int .i64) 3 w24 w.heap.size (fun k_ => some k_ ≠ (.slice (some ad440) t437.length co15 : Value).ownBlock) (.slice (some ⟨go22, 0, none⟩) x6_2.length co22) y442 := (by rw [hw, Ny442.out]; exact HP23.1); clear HP23; replace HO_6 := Aside0.mk (hp_); replace HO_28 := Aside0.mk (Kd.R_after (v := (.slice (some ⟨go22, 0, none⟩) x6_2.length co22)) (v1 := (.slice (some ⟨go22, 0, none⟩) x6_2.length co22)) (ok := (fun _ => True)) (ro (Kd.R_mono HO_28.out (fun _ hk => ⟨trivial, hk⟩))) hg (.inl rfl)); replace HB := Aside0.mk ((by rw [hw]; exact below_set (HB.out) GB22.out : Below w.heap.size w w24)); clear hg hw hp_))
              go_roundg k2
              case measure => have := HJ2.out; have := HK2.out; omega
              case rel => exact ⟨(y442), (wrap64 (x30_2 + 1)), rv, H', ⟨by have := HJ2.out; have := HK2.out; omega⟩, (ra HO_6.out), (ra (Kd.R_mono HO_28.out (fun _ hk => hk.2))), bh HB⟩
             ·rw [if_neg c21] at H
              exact absurd H (by simp)
            ·rw [if_neg c20] at H
             exact absurd H (by simp)
           ·rw [if_neg c19] at H
            exact absurd H (by simp)
          ·rw [if_neg c18] at H
           exact absurd H (by simp)
         ·rw [if_neg c17] at H
          exact absurd H (by simp)
        ·rw [if_neg c16] at H
         have c16b0 := decide_eq_false c16
         clear c16
         simp only [Option.some.injEq, Prod.mk.injEq] at H
         obtain ⟨rfl, rfl⟩ := H
         go_wp2
         go_ret2
         exact ⟨_, re, ro (Kd.R_mono HO_6.out (fun _ hk => trivial)), bo HB⟩
     ·rw [if_neg c10] at H
      exact absurd H (by simp)
    ·rw [if_neg c9] at H
     exact absurd H (by simp)

def impl_StepOf.f (a0 : Int) : Option (Int) := (impl_within.f a0 0 40).bind fun t443 => (if t443 = true then ((some (([10, 11, 13, 14, 16, 18] : List Int) : List Int)).bind fun y444 => (if 0 ≤ (Int.tmod a0 6) then (if (Int.tmod a0 6) < (y444.length : Int) then (if 0 ≤ (wrap64 (Int.tdiv a0 6)) then (some (shl .i64 (rd y444 (Int.tmod a0 6)) (wrap64 (Int.tdiv a0 6)))) else (none)) else (none)) else (none))) else (some 0))
theorem impl_StepOf.calls (a0 : Int) (r : Int) (w : World) (h : impl_StepOf.f a0 = some r) :
  Calls Try.prog 149 #[.int .i64 a0] w fun e w' => e = .returned (.int .i64 r) ∧ Below w.heap.size w w' := by
 have HB := Aside0.mk (Below.refl w.heap.size w)
 have H := h
 clear h
 unfold impl_StepOf.f at H
 replace H := bnd H
 obtain ⟨t443, A2, H⟩ := H
 by_cases c3 : t443 = true
 ·subst c3
  rw [if_pos rfl] at H
  replace H := yl H
  obtain ⟨y444, Ny444, H⟩ := H
  obtain ⟨ji4, hji4⟩ : ∃ j_ : Int, (Int.tmod a0 6) = j_ := ⟨_, rfl⟩
  replace H : (if 0 ≤ (ji4) then (if (ji4) < (y444.length : Int) then (if 0 ≤ (wrap64 (Int.tdiv a0 6)) then (some (shl .i64 (rd y444 (ji4)) (wrap64 (Int.tdiv a0 6)))) else (none)) else (none)) else (none)) = some r := by first | (rw [hji4] at H; exact H) | (simp only [hji4] at H ⊢; exact H)
  (try rw [hji4] at A2)
  by_cases c5 : 0 ≤ (ji4)
  ·rw [if_pos c5] at H
   have c5b0 := decide_eq_true c5
   clear c5
   by_cases c6 : (ji4) < (y444.length : Int)
   ·rw [if_pos c6] at H
    have c6b0 := decide_eq_true c6
    clear c6
    obtain ⟨ji7, hji7⟩ : ∃ j_ : Int, (wrap64 (Int.tdiv a0 6)) = j_ := ⟨_, rfl⟩
    replace H : (if 0 ≤ (ji7) then (some (shl .i64 (rd y444 (ji4)) (ji7))) else (none)) = some r := by first | (rw [hji7] at H; exact H) | (simp only [hji7] at H ⊢; exact H)
    (try rw [hji7] at A2)
    have hji7w : (IntKind.i64.wrap (Int.tdiv a0 6)) = ji7 := (i64_w _).trans hji7
    by_cases c8 : 0 ≤ (ji7)
    ·rw [if_pos c8] at H
     have c8b0 := eq_true c8
     have c8b1 := decide_eq_true c8
     clear c8
     obtain ⟨ji9, hji9⟩ : ∃ j_ : Int, (shl .i64 (rd y444 (ji4)) (ji7)) = j_ := ⟨_, rfl⟩
     replace H : (some ji9) = some r := by first | (rw [hji9] at H; exact H) | (simp only [hji9] at H ⊢; exact H)
     (try rw [hji9] at A2)
     have hji9_ : (IntKind.i64.wrap ((rd y444 (ji4)) * 2 ^ min (ji7).toNat 64)) = ji9 := hji9
     have hji9z : (ji7) ≤ 64 → (IntKind.i64.wrap ((rd y444 (ji4)) * 2 ^ (ji7).toNat)) = ji9 := shl_small hji9
     have hji9y : (wrap64 ((rd y444 (ji4)) * 2 ^ min (ji7).toNat 64)) = ji9 := (i64_w _).symm.trans hji9_
     have hji9x : (ji7) ≤ 64 → (wrap64 ((rd y444 (ji4)) * 2 ^ (ji7).toNat)) = ji9 := fun h_ => (i64_w _).symm.trans (hji9z h_)
     obtain rfl := Option.some.inj H
     go_enter Try.func149, Try.ntmps149
     go_wp2_with (first | ((with_reducible refine gate_callee (f := 55) rfl ?_); refine gD (some 4) Try.func55 #[.int .i64 a0, .int .i64 0, .int .i64 40] (impl_within.calls a0 0 40 true _ A2.out) ?_; intro nd) | ((with_reducible refine gate_dst (N := 6) rfl ?_); refine Kd.R_lit (Kd.int .i64) _ 3 ?hg (N := 6) ?hd (xs := ([10, 11, 13, 14, 16, 18] : List Int)) (inner := [.int .i64 10, .int .i64 11, .int .i64 13, .int .i64 14, .int .i64 16, .int .i64 18]) (ok := fun _ => True) (okp := fun _ => True) ?hr ?hp (fun _ hk => hk) trivial (Below.refl _ _) (Nat.le_refl _) (by simp) ?_; (case hd => rfl); (case hg => rfl); (case hr => first | (go_simp; done) | (go_simp; rfl)); (case hp => exact (Reps.one (show Kd.M (Kd.int .i64) _ _ _ 10 [.int .i64 10] from rfl) (Reps.one (show Kd.M (Kd.int .i64) _ _ _ 11 [.int .i64 11] from rfl) (Reps.one (show Kd.M (Kd.int .i64) _ _ _ 13 [.int .i64 13] from rfl) (Reps.one (show Kd.M (Kd.int .i64) _ _ _ 14 [.int .i64 14] from rfl) (Reps.one (show Kd.M (Kd.int .i64) _ _ _ 16 [.int .i64 16] from rfl) (Reps.one (show Kd.M (Kd.int .i64) _ _ _ 18 [.int .i64 18] from rfl) (Reps.none _ _)))))))); intro v445 w10 ho11 hb hg_ hnew_; clear hg_ hnew_; (first | rw [← Ny444.out] at ho11 | (simp only [Int.reduceToNat] at ho11; rw [← Ny444.out] at ho11)); have HO446 := Aside0.mk (Kd.R_lower ho11 (below_size (bo HB))); replace HB := bs HB hb; clear hb ho11; obtain ⟨Ao12, co12, eo12⟩ := Kd.R_slice HO446.out; subst eo12; have p447 : 0 ≤ ((ji4) : Int) := od; have q447 : (ji4) < (y444.length : Int) := od; obtain ⟨ad447, e447, hx447_0⟩ := Kd.at_int (Kd.R_reads' HO446.out).2.2 (ji4) p447 q447; cases e447; replace p447 := eq_true p447; replace q447 := eq_true q447))
     go_ret
     exact ⟨by first | rfl | (simp [errW_none, errW_some] <;> rfl) | (simp only [← hji4, ← hji7, ← hji9]; first | rfl | (simp [errW_none, errW_some] <;> rfl)) | (simp [*, errW_none, errW_some] <;> rfl), bo HB⟩
    ·rw [if_neg c8] at H
     exact absurd H (by simp)
   ·rw [if_neg c6] at H
    exact absurd H (by simp)
  ·rw [if_neg c5] at H
   exact absurd H (by simp)
 ·replace c3 := Bool.eq_false_iff.mpr c3
  subst c3
  rw [if_neg nft] at H
  obtain rfl := Option.some.inj H
  go_enter Try.func149, Try.ntmps149
  go_wp2_with (first | ((with_reducible refine gate_callee (f := 55) rfl ?_); refine gD (some 4) Try.func55 #[.int .i64 a0, .int .i64 0, .int .i64 40] (impl_within.calls a0 0 40 false _ A2.out) ?_; intro nd))
  go_ret
  exact ⟨re, bo HB⟩

def impl_LargeBack.f (a0 : Int) (a1 : Int) : Option (Int) := (impl_within.f a0 (-5000) 5000).bind fun t448 => (if t448 = true then ((impl_StepOf.f a1).bind fun t449 => (some (wrap64 (a0 * t449)))) else (some 0))
theorem impl_LargeBack.calls (a0 : Int) (a1 : Int) (r : Int) (w : World) (h : impl_LargeBack.f a0 a1 = some r) :
  Calls Try.prog 114 #[.int .i64 a0, .int .i64 a1] w fun e w' => e = .returned (.int .i64 r) ∧ Below w.heap.size w w' := by
 have HB := Aside0.mk (Below.refl w.heap.size w)
 have H := h
 clear h
 unfold impl_LargeBack.f at H
 replace H := bnd H
 obtain ⟨t448, A3, H⟩ := H
 by_cases c4 : t448 = true
 ·subst c4
  rw [if_pos rfl] at H
  replace H := bnd H
  obtain ⟨t449, A5, H⟩ := H
  obtain rfl := Option.some.inj H
  go_enter Try.func114, Try.ntmps114
  go_wp2_with (first | ((with_reducible refine gate_callee (f := 55) rfl ?_); refine gD (some 6) Try.func55 #[.int .i64 a0, .int .i64 (-5000), .int .i64 5000] (impl_within.calls a0 (-5000) 5000 true _ A3.out) ?_; intro nd) | ((with_reducible refine gate_callee (f := 149) rfl ?_); refine gL (some 10) Try.func149 #[.int .i64 a1] ?_; (with_reducible refine (impl_StepOf.calls a1 t449 _ A5.out).mono ?_); rintro e w6 ⟨rfl, hb⟩; refine ⟨_, rfl, ?_⟩; replace HB := bs HB hb; (try clear hb)))
  go_ret
  exact ⟨re, bo HB⟩
 ·replace c4 := Bool.eq_false_iff.mpr c4
  subst c4
  rw [if_neg nft] at H
  obtain rfl := Option.some.inj H
  go_enter Try.func114, Try.ntmps114
  go_wp2_with (first | ((with_reducible refine gate_callee (f := 55) rfl ?_); refine gD (some 6) Try.func55 #[.int .i64 a0, .int .i64 (-5000), .int .i64 5000] (impl_within.calls a0 (-5000) 5000 false _ A3.out) ?_; intro nd))
  go_ret
  exact ⟨re, bo HB⟩

def impl_floor.f (a0 : Int) (a1 : Int) : Option (Int) := if a1 = 0 then (none) else (if (Int.tmod a0 a1) < 0 then (some (wrap64 ((wrap64 (Int.tdiv a0 a1)) - 1))) else (some (wrap64 (Int.tdiv a0 a1))))
theorem impl_floor.calls (a0 : Int) (a1 : Int) (r : Int) (w : World) (h : impl_floor.f a0 a1 = some r) :
  Calls Try.prog 155 #[.int .i64 a0, .int .i64 a1] w fun e w' => e = .returned (.int .i64 r) ∧ Drawn0 w w' := by
 have H := h
 clear h
 unfold impl_floor.f at H
 by_cases c3 : a1 = 0
 ·rw [if_pos c3] at H
  exact absurd H (by simp)
 ·rw [if_neg c3] at H
  obtain ⟨c3b0, c3b1⟩ := eqf c3
  by_cases c4 : (Int.tmod a0 a1) < 0
  ·rw [if_pos c4] at H
   have c4b0 := decide_eq_true c4
   clear c4
   obtain rfl := Option.some.inj H
   go_enter Try.func155, Try.ntmps155
   go_wp2
   go_ret
   exact ⟨rv, dr⟩
  ·rw [if_neg c4] at H
   have c4b0 := decide_eq_false c4
   clear c4
   obtain rfl := Option.some.inj H
   go_enter Try.func155, Try.ntmps155
   go_wp2
   go_ret
   exact ⟨rv, dr⟩

def impl_settled.l0 : Nat → List Int → Int → Int → Option (List Int)
 | 0, _, _, _ => none
 | k + 1, x0, x6, x7 => if x7 < x6 then (if 0 ≤ x7 then (if x7 < (x0.length : Int) then ((impl_floor.f (wrap64 ((rd x0 x7) + 32)) 64).bind fun t451 => (impl_settled.l0 k (x0.set (x7 : Int).toNat t451) x6 (wrap64 (x7 + 1)))) else (none)) else (none)) else (some x0)
def impl_settled.f (k : Nat) (l0 : List Int) : Option (List Int) := impl_settled.l0 k l0 (l0.length : Int) 0
theorem impl_settled.calls (k : Nat) (P0_ : Nat → Prop) (u9000_ : Value) (l0 : List Int) (r : List Int) (w0 w : World) (hB : Below w0.heap.size w0 w) (ho0 : Kd.R (Kd.int .i64) 3 w w0.heap.size P0_ u9000_ l0) (h : impl_settled.f k l0 = some r) :
  Calls Try.prog 150 #[u9000_] w fun e w' => ∃ v0_ : Value, e = .returned (v0_) ∧ Kd.R (Kd.int .i64) 3 w' w0.heap.size (fun k_ => (P0_ k_ ∨ w.heap.size ≤ k_)) v0_ r ∧ Below w0.heap.size w0 w' ∧ Kept w w' (fun k_ => P0_ k_) := by
 have HO0 := Aside0.mk (show Kd.R (Kd.int .i64) 3 w w0.heap.size (fun k_ => (P0_ k_ ∨ w.heap.size ≤ k_)) u9000_ l0 from Kd.R_mono ho0 (fun k_ hk => (.inl hk)))
 have HK := Aside0.mk (Kept.refl w (fun k_ => P0_ k_))
 have HW0 := Aside0.mk hB.size
 have HB := Aside0.mk hB
 clear hB
 have H := h
 clear h
 unfold impl_settled.f at H
 have H' := Aside0.mk H
 clear H
 obtain ⟨Ao2, co2, eo2⟩ := Kd.R_slice HO0.out
 subst eo2
 go_enter Try.func150, Try.ntmps150
 go_wp2
 go_loopg [7] k (fun kq v7 w' => ∃ (x0_1 : List Int) (x7_1 : Int), v7 = .int .i64 x7_1 ∧ Aside0 (impl_settled.l0 kq x0_1 (l0.length : Int) x7_1 = some r) ∧ Aside0 (kq ≤ k) ∧ Aside0 (Kd.R (Kd.int .i64) 3 w' w0.heap.size (fun k_ => (P0_ k_ ∨ w.heap.size ≤ k_)) (.slice Ao2 l0.length co2) x0_1) ∧ Aside0 (Kept w w' (fun k_ => P0_ k_)) ∧ Aside0 (Below w0.heap.size w0 w'))
 case atStart => exact ⟨(l0), (0), rv, H', ⟨Nat.le_refl _⟩, (ra HO0.out), ⟨by repeat (first | (with_reducible first | exact HK.out | apply Kept.alloc | apply Kept.drewN | apply Kept.drew) | exact HK.out)⟩, bh HB⟩
 case round =>
  clear H'
  obtain ⟨x0_1, x7_1, rfl, HA, HK1, HO_0, HK, HB⟩ := hrel
  have hl0_1 := (Kd.R_reads' HO_0.out).1
  rw [hl0_1] at HO_0
  (try simp only [hl0_1])
  cases gk with
  | zero => exact absurd HA.out (by simp [impl_settled.l0])
  | succ k1 =>
   have H := HA.out
   clear HA
   simp only [impl_settled.l0] at H
   by_cases c3 : x7_1 < (l0.length : Int)
   ·rw [if_pos c3] at H
    have c3b0 := decide_eq_true c3
    (try (have c3b0h := c3b0; simp only [hl0_1] at c3b0h))
    clear c3
    by_cases c4 : 0 ≤ x7_1
    ·rw [if_pos c4] at H
     have c4b0 := decide_eq_true c4
     (try (have c4b0h := c4b0; simp only [hl0_1] at c4b0h))
     clear c4
     by_cases c5 : x7_1 < (x0_1.length : Int)
     ·rw [if_pos c5] at H
      have c5b0 := decide_eq_true c5
      (try (have c5b0h := c5b0; simp only [hl0_1] at c5b0h))
      clear c5
      replace H := bnd H
      obtain ⟨t451, A6, H⟩ := H
      obtain ⟨y452, hy452⟩ : ∃ y_ : List Int, y_ = (x0_1.set (x7_1 : Int).toNat t451) := ⟨_, rfl⟩
      replace H : (impl_settled.l0 k1 y452 (l0.length : Int) (wrap64 (x7_1 + 1))) = some r := by subst hy452; exact H
      have Ny452 := Aside0.mk hy452
      clear hy452
      have H' := Aside0.mk H
      clear H
      have p450 : 0 ≤ (x7_1 : Int) := od
      have q450 : x7_1 < (x0_1.length : Int) := od
      obtain ⟨ad450, e450, hx450_0⟩ := Kd.at_int (Kd.R_reads' HO_0.out).2.2 x7_1 p450 q450
      cases e450
      replace p450 := eq_true p450
      replace q450 := eq_true q450
      go_wp2_with (first | ((with_reducible refine gate_callee (f := 155) rfl ?_); refine gD (some 16) Try.func155 #[.int .i64 (wrap64 ((rd x0_1 x7_1) + 32)), .int .i64 64] (impl_floor.calls (wrap64 ((rd x0_1 x7_1) + 32)) 64 t451 _ A6.out) ?_ (hargs := (by (try simp only [List.map_toArray, List.map_cons, List.map_nil]); first | done | rfl | (rw [show (wrap64 ((rd x0_1 x7_1) + 32)) = ((rd x0_1 x7_1) + 32) from by unfold wrap64; omega]; rfl) | (simp only [List.length_drop, List.length_take]; rfl))); intro nd; (try (rw [drewN_self wr]; generalize hq_ : World.drewN wr _ = wr; have n0_ : Aside0 (Kd.R (Kd.int .i64) 3 wr w0.heap.size (fun k_ => ((P0_ k_ ∨ w.heap.size ≤ k_))) (.slice (some ad450) x0_1.length co2) x0_1) := ⟨by rw [← hq_]; exact (ro HO_0.out)⟩; have n1_ : Aside0 (Kept w wr (fun k_ => P0_ k_)) := ⟨by rw [← hq_]; exact (by repeat (first | (with_reducible first | exact HK.out | apply Kept.alloc | apply Kept.drewN | apply Kept.drew) | exact HK.out))⟩; have n2_ : Aside0 (Below w0.heap.size w0 wr) := ⟨by rw [← hq_]; exact (bo HB)⟩; clear HO_0 HK HB hq_; have HO_0 := n0_; have HK := n1_; have HB := n2_; clear n0_ n1_ n2_)); have p7 : 0 ≤ (x7_1 : Int) := od; have q7 : (x7_1 : Int) < ((x0_1.length : Int) : Int) := od; obtain ⟨go7, co7, eo7, gb7, gl7, cl7, HG7⟩ := Kd.R_form HO_0.out (by omega); (first | cases eo7 | (injection eo7 with ea_ en_ ec_; (first | subst ea_ | (injection ea_ with ea_; subst ea_)); subst ec_; clear en_)); have GB7 := Aside0.mk gb7; have GG7 := Aside0.mk HG7; clear gb7 gl7 HG7; have HMgo7 := Aside0.mk (show (P0_ go7 ∨ w.heap.size ≤ go7) from (HO_0.out.1 _ rfl)); (first | simp only [add_plain] at hx450_0 | skip); obtain ⟨hx7_0, hf7_0⟩ := Kd.R_celln 0 HO_0.out (x7_1 : Int) p7 q7; replace p7 := eq_true p7; replace q7 := eq_true q7; obtain ⟨hy8_, hz8_⟩ := Kd.R_celln 0 HO_0.out (x7_1 : Int) (od) (od); have HP8 := Kd.R_putg HO_0.out (x7_1 : Int) t451) | ((with_reducible refine gate_store (t := 3) (p := 17) rfl ?_); refine store_event (t := 3) (p := 17) (v := ?vo_w9) (w1 := (wr.setCell ⟨go7, (x7_1 : Int).toNat, none⟩ (.int .i64 t451))) ?hg ?ho ?hn ?hr ?_; (case ho => rfl); (case hg => rfl); (case hn => rfl); (case hr => first | (go_simp; done) | (go_simp; rfl)); intro w9 hw; have hg : wr.grownBy w9 (some go7) := (by rw [hw]; exact HP8.2); have hp_ : Kd.R (Kd.int .i64) 3 w9 w0.heap.size (fun k_ => (P0_ k_ ∨ w.heap.size ≤ k_)) (.slice (some ⟨go7, 0, none⟩) x0_1.length co2) y452 := (by rw [hw, Ny452.out]; exact HP8.1); clear HP8; replace HB := Aside0.mk ((by rw [hw]; exact below_set (HB.out) GB7.out : Below w0.heap.size w0 w9)); replace HK := Aside0.mk (Kept.of_grown (S := (fun k_ => P0_ k_)) hg (by repeat (first | (with_reducible first | exact HK.out | apply Kept.alloc | apply Kept.drewN | apply Kept.drew) | exact HK.out)) (fun k_ e_ => (HO_0.out.1 k_ e_))); replace HO_0 := Aside0.mk (hp_); clear hg hw hp_))
      (try simp only [← hl0_1])
      go_roundg k1
      case measure => have := HK1.out; omega
      case rel => exact ⟨(y452), (wrap64 (x7_1 + 1)), rv, H', ⟨by have := HK1.out; omega⟩, ⟨by (try simp only [hl0_1]); (with_reducible repeat (first | apply Kd.R_alloc | apply Kd.R_drewN | apply Kd.R_drew)); exact HO_0.out⟩, ⟨by repeat (first | (with_reducible first | exact HK.out | apply Kept.alloc | apply Kept.drewN | apply Kept.drew) | exact HK.out)⟩, bh HB⟩
     ·rw [if_neg c5] at H
      exact absurd H (by simp)
    ·rw [if_neg c4] at H
     exact absurd H (by simp)
   ·rw [if_neg c3] at H
    have c3b0 := decide_eq_false c3
    (try (have c3b0h := c3b0; simp only [hl0_1] at c3b0h))
    clear c3
    obtain rfl := Option.some.inj H
    go_wp2
    go_ret
    exact ⟨_, re, ro HO_0.out, by repeat (first | (with_reducible first | exact HB.out | apply below_alloc | apply pw_below_drewN | apply below_drew1) | exact HB.out), by repeat (first | (with_reducible first | exact HK.out | apply Kept.alloc | apply Kept.drewN | apply Kept.drew) | exact HK.out)⟩

def impl_SignOf.j0 : Nat → Int → Int → Bool → Option (Int)
 | 0, _, _, _ => none
 | k + 1, x0, x1, x13 => if x13 = true then (some 0) else (if (Int.tmod (wrap64 ((wrap64 ((Go.bits .and .i64 (Go.bits .and .i64 x0 x1) 1) + (Go.bits .and .i64 ((Go.bits .and .i64 x0 x1) / 2) 1))) + (Go.bits .and .i64 ((Go.bits .and .i64 x0 x1) / 4) 1))) 2) = 0 then (some 1) else (some (-1)))
def impl_SignOf.f (k : Nat) (a0 : Int) (a1 : Int) : Option (Int) := (impl_within.f a0 0 7).bind fun t453 => (if t453 = true then ((impl_within.f a1 0 7).bind fun t454 => (impl_SignOf.j0 k a0 a1 (!t454))) else (impl_SignOf.j0 k a0 a1 true))
theorem impl_SignOf.mono_l : ∀ k, (∀ y0 y1 y2, LeO (impl_SignOf.j0 k y0 y1 y2) (impl_SignOf.j0 (k + 1) y0 y1 y2))
 | 0 => fun _ _ _ r h => by simp [impl_SignOf.j0] at h
 | k + 1 => by
  have ih0 := impl_SignOf.mono_l k
  ·intro y0 y1 y2
   unfold impl_SignOf.j0
   repeat' first
   | (with_reducible exact ih0 _ _ _)
   | (with_reducible exact LeO.refl _)
   | (with_reducible exact LeO.none _)
   | (with_reducible refine LeO.ite ?_ ?_)
   | (with_reducible refine LeO.bind ?_ (fun _ => ?_))
   | exact ih0 _ _ _
   | exact LeO.none _
   | refine LeO.ite ?_ ?_
   | refine LeO.bind ?_ (fun _ => ?_)
theorem impl_SignOf.mono : ∀ a0 a1 k, LeO (impl_SignOf.f k a0 a1) (impl_SignOf.f (k + 1) a0 a1) := by
 intro a0 a1 k
 have ih0 := impl_SignOf.mono_l k
 unfold impl_SignOf.f
 repeat' first
   | (with_reducible exact ih0 _ _ _)
   | (with_reducible exact LeO.refl _)
   | (with_reducible exact LeO.none _)
   | (with_reducible refine LeO.ite ?_ ?_)
   | (with_reducible refine LeO.bind ?_ (fun _ => ?_))
   | exact ih0 _ _ _
   | exact LeO.none _
   | refine LeO.ite ?_ ?_
   | refine LeO.bind ?_ (fun _ => ?_)
theorem impl_SignOf.calls (k : Nat) (a0 : Int) (a1 : Int) (r : Int) (w : World) (h : impl_SignOf.f k a0 a1 = some r) :
  Calls Try.prog 165 #[.int .i64 a0, .int .i64 a1] w fun e w' => e = .returned (.int .i64 r) ∧ Drawn0 w w' := by
 have H := h
 clear h
 unfold impl_SignOf.f at H
 have HC3 := Aside0.mk H
 clear H
 go_enter Try.func165, Try.ntmps165
 go_upto_region 1 with (fail)
 go_cut [13] (fun v13 wc => ∃ (kq : Nat) (x13_2 : Bool), v13 = .bool x13_2 ∧ Aside0 (impl_SignOf.j0 kq a0 a1 x13_2 = some r) ∧ Aside0 (kq ≤ k) ∧ Drawn0 w wc)
 case first =>
  have H := HC3.out
  clear HC3
  replace H := bnd H
  obtain ⟨t453, A4, H⟩ := H
  by_cases c5 : t453 = true
  ·subst c5
   rw [if_pos rfl] at H
   replace H := bnd H
   obtain ⟨t454, A6, H⟩ := H
   have H' := Aside0.mk H
   clear H
   go_wp2_with (first | ((with_reducible refine gate_callee (f := 55) rfl ?_); refine gD (some 7) Try.func55 #[.int .i64 a0, .int .i64 0, .int .i64 7] (impl_within.calls a0 0 7 true _ A4.out) ?_; intro nd) | (go_at_call 55; (with_reducible refine (impl_within.calls a1 0 7 t454 _ A6.out).mono ?_); rintro e w' ⟨rfl, ⟨nd, rfl⟩⟩))
   go_meet
   case rel => exact ⟨_, (!t454), rv, H', om, dr⟩
  ·replace c5 := Bool.eq_false_iff.mpr c5
   subst c5
   rw [if_neg nft] at H
   have H' := Aside0.mk H
   clear H
   go_wp2_with (first | ((with_reducible refine gate_callee (f := 55) rfl ?_); refine gD (some 7) Try.func55 #[.int .i64 a0, .int .i64 0, .int .i64 7] (impl_within.calls a0 0 7 false _ A4.out) ?_; intro nd))
   go_meet
   case rel => exact ⟨_, (true), rv, H', om, dr⟩
 case rest =>
  clear HC3
  obtain ⟨kq, x13_2, rfl, HA, HJ2, ⟨mc2, rfl⟩⟩ := hcut
  cases kq with
  | zero => exact absurd HA.out (by simp [impl_SignOf.j0])
  | succ kj2 =>
   have H := HA.out
   clear HA
   simp only [impl_SignOf.j0] at H
   by_cases c7 : x13_2 = true
   ·subst c7
    rw [if_pos rfl] at H
    obtain rfl := Option.some.inj H
    go_wp2
    go_ret
    exact ⟨rv, dr⟩
   ·replace c7 := Bool.eq_false_iff.mpr c7
    subst c7
    rw [if_neg nft] at H
    by_cases c8 : (Int.tmod (wrap64 ((wrap64 ((Go.bits .and .i64 (Go.bits .and .i64 a0 a1) 1) + (Go.bits .and .i64 ((Go.bits .and .i64 a0 a1) / 2) 1))) + (Go.bits .and .i64 ((Go.bits .and .i64 a0 a1) / 4) 1))) 2) = 0
    ·rw [if_pos c8] at H
     obtain ⟨c8b0, c8b1⟩ := eqt c8
     clear c8
     obtain rfl := Option.some.inj H
     go_wp2
     go_ret
     exact ⟨rv, dr⟩
    ·rw [if_neg c8] at H
     obtain ⟨c8b0, c8b1⟩ := eqf c8
     obtain rfl := Option.some.inj H
     go_wp2
     go_ret
     exact ⟨rv, dr⟩

end Go.Proofs.Ytnaccgommclhaaa.QFnExactSquareDots
