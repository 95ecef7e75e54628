/- What the law reaches, as plain functions, each with the proof that its call comes to its answer: written by a program for this claim. -/
import Derived.Test.YtnaccgommclhaaaQFnExactSquareDotsx0
import Derived.Test.YtnaccgommclhaaaQFnExactSquareDotsx1
import Derived.Test.YtnaccgommclhaaaUFnExactSquareDotsV5
namespace Go.Proofs.Ytnaccgommclhaaa.QFnExactSquareDots
open Go.RowKit Go.Proofs.YtnaccgommclhaaaW.PrintWords Go.Proofs.YtnaccgommclhaaaW.PrintLast Go.Proofs.YtnaccgommclhaaaW.PrintMore Go.Proofs.YtnaccgommclhaaaV
attribute [local go_sem] max2_int min2_int max_two min_two max_three min_three max_four min_four   -- for this text's walks alone
set_option linter.unusedVariables false
set_option linter.unusedSimpArgs false
set_option maxHeartbeats 8000000
set_option maxRecDepth 100000

mutual
def spec_StepOf.j0 : Nat → Int → Int → Option (Int)
 | 0, _, _ => none
 | k + 1, x0, x3 => spec_StepOf.l0 k x0 x3 0
def spec_StepOf.l0 : Nat → Int → Int → Int → Option (Int)
 | 0, _, _, _ => none
 | k + 1, x0, x3, x4 => if x4 < (wrap64 (Int.tdiv x0 6)) then (spec_StepOf.l0 k x0 (wrap64 (2 * x3)) (wrap64 (x4 + 1))) else (some x3)
end
def spec_StepOf.f (k : Nat) (a0 : Int) : Option (Int) := (spec_l01In.f a0 0 40).bind fun t162 => (if t162 = true then (if (Int.tmod a0 6) = 0 then (spec_StepOf.j0 k a0 10) else (if (Int.tmod a0 6) = 1 then (spec_StepOf.j0 k a0 11) else (if (Int.tmod a0 6) = 2 then (spec_StepOf.j0 k a0 13) else (if (Int.tmod a0 6) = 3 then (spec_StepOf.j0 k a0 14) else (if (Int.tmod a0 6) = 4 then (spec_StepOf.j0 k a0 16) else (spec_StepOf.j0 k a0 18)))))) else (some 0))
theorem spec_StepOf.mono_l : ∀ k, (∀ y0 y1, LeO (spec_StepOf.j0 k y0 y1) (spec_StepOf.j0 (k + 1) y0 y1)) ∧ (∀ y0 y1 y2, LeO (spec_StepOf.l0 k y0 y1 y2) (spec_StepOf.l0 (k + 1) y0 y1 y2))
 | 0 => ⟨fun _ _ r h => by simp [spec_StepOf.j0] at h, fun _ _ _ r h => by simp [spec_StepOf.l0] at h⟩
 | k + 1 => by
  obtain ⟨ih0, ih1⟩ := spec_StepOf.mono_l k
  refine ⟨?_, ?_⟩
  ·intro y0 y1
   unfold spec_StepOf.j0
   repeat' first
   | (with_reducible exact ih0 _ _)
   | (with_reducible exact ih1 _ _ _)
   | (with_reducible exact LeO.refl _)
   | (with_reducible exact LeO.none _)
   | (with_reducible refine LeO.ite ?_ ?_)
   | (with_reducible refine LeO.bind ?_ (fun _ => ?_))
   | exact ih0 _ _
   | exact ih1 _ _ _
   | exact LeO.none _
   | refine LeO.ite ?_ ?_
   | refine LeO.bind ?_ (fun _ => ?_)
  ·intro y0 y1 y2
   unfold spec_StepOf.l0
   repeat' first
   | (with_reducible exact ih0 _ _)
   | (with_reducible exact ih1 _ _ _)
   | (with_reducible exact LeO.refl _)
   | (with_reducible exact LeO.none _)
   | (with_reducible refine LeO.ite ?_ ?_)
   | (with_reducible refine LeO.bind ?_ (fun _ => ?_))
   | exact ih0 _ _
   | exact ih1 _ _ _
   | exact LeO.none _
   | refine LeO.ite ?_ ?_
   | refine LeO.bind ?_ (fun _ => ?_)
theorem spec_StepOf.mono : ∀ a0 k, LeO (spec_StepOf.f k a0) (spec_StepOf.f (k + 1) a0) := by
 intro a0 k
 obtain ⟨ih0, ih1⟩ := spec_StepOf.mono_l k
 unfold spec_StepOf.f
 repeat' first
   | (with_reducible exact ih0 _ _)
   | (with_reducible exact ih1 _ _ _)
   | (with_reducible exact LeO.refl _)
   | (with_reducible exact LeO.none _)
   | (with_reducible refine LeO.ite ?_ ?_)
   | (with_reducible refine LeO.bind ?_ (fun _ => ?_))
   | exact ih0 _ _
   | exact ih1 _ _ _
   | exact LeO.none _
   | refine LeO.ite ?_ ?_
   | refine LeO.bind ?_ (fun _ => ?_)
theorem spec_StepOf.calls (k : Nat) (a0 : Int) (r : Int) (w : World) (h : spec_StepOf.f k a0 = some r) :
  Calls Try.prog 141 #[.int .i64 a0] w fun e w' => e = .returned (.int .i64 r) ∧ Drawn0 w w' := by
 have H := h
 clear h
 unfold spec_StepOf.f at H
 replace H := bnd H
 obtain ⟨t162, A2, H⟩ := H
 by_cases c3 : t162 = true
 ·subst c3
  rw [if_pos rfl] at H
  have HC4 := Aside0.mk H
  clear H
  go_enter Try.func141, Try.ntmps141
  go_upto_block 0 with (first | ((with_reducible refine gate_callee (f := 58) rfl ?_); refine gD (some 6) Try.func58 #[.int .i64 a0, .int .i64 0, .int .i64 40] (spec_l01In.calls a0 0 40 true _ A2.out) ?_; intro nd))
  (try simp only [Act.put, List.setIfInBounds_toArray, List.set_cons_zero, List.set_cons_succ])
  go_cut [3] (fun v3 wc => ∃ (kq : Nat) (x3_3 : Int), v3 = .int .i64 x3_3 ∧ Aside0 (spec_StepOf.j0 kq a0 x3_3 = some r) ∧ Aside0 (kq ≤ k) ∧ Drawn0 w wc)
  case first =>
   have H := HC4.out
   clear HC4
   by_cases c5 : (Int.tmod a0 6) = 0
   ·rw [if_pos c5] at H
    obtain ⟨c5b0, c5b1⟩ := eqt c5
    clear c5
    (first | rw [c5b0] | (simp only [i64_w, i32_w]; rw [c5b0]) | skip)
    have H' := Aside0.mk H
    clear H
    go_wp2
    go_meet
    case rel => exact ⟨_, (10), rv, H', om, dr⟩
   ·rw [if_neg c5] at H
    obtain ⟨c5b0, c5b1⟩ := eqf c5
    (first | rw [c5b0] | (simp only [i64_w, i32_w]; rw [c5b0]) | skip)
    by_cases c6 : (Int.tmod a0 6) = 1
    ·rw [if_pos c6] at H
     obtain ⟨c6b0, c6b1⟩ := eqt c6
     clear c6
     have H' := Aside0.mk H
     clear H
     go_wp2
     go_meet
     case rel => exact ⟨_, (11), rv, H', om, dr⟩
    ·rw [if_neg c6] at H
     obtain ⟨c6b0, c6b1⟩ := eqf c6
     by_cases c7 : (Int.tmod a0 6) = 2
     ·rw [if_pos c7] at H
      obtain ⟨c7b0, c7b1⟩ := eqt c7
      clear c7
      have H' := Aside0.mk H
      clear H
      go_wp2
      go_meet
      case rel => exact ⟨_, (13), rv, H', om, dr⟩
     ·rw [if_neg c7] at H
      obtain ⟨c7b0, c7b1⟩ := eqf c7
      by_cases c8 : (Int.tmod a0 6) = 3
      ·rw [if_pos c8] at H
       obtain ⟨c8b0, c8b1⟩ := eqt c8
       clear c8
       have H' := Aside0.mk H
       clear H
       go_wp2
       go_meet
       case rel => exact ⟨_, (14), rv, H', om, dr⟩
      ·rw [if_neg c8] at H
       obtain ⟨c8b0, c8b1⟩ := eqf c8
       by_cases c9 : (Int.tmod a0 6) = 4
       ·rw [if_pos c9] at H
        obtain ⟨c9b0, c9b1⟩ := eqt c9
        clear c9
        have H' := Aside0.mk H
        clear H
        go_wp2
        go_meet
        case rel => exact ⟨_, (16), rv, H', om, dr⟩
       ·rw [if_neg c9] at H
        obtain ⟨c9b0, c9b1⟩ := eqf c9
        have H' := Aside0.mk H
        clear H
        go_wp2
        go_meet
        case rel => exact ⟨_, (18), rv, H', om, dr⟩
  case rest =>
   clear HC4
   obtain ⟨kq, x3_3, rfl, HA, HJ3, ⟨mc3, rfl⟩⟩ := hcut
   cases kq with
   | zero => exact absurd HA.out (by simp [spec_StepOf.j0])
   | succ kj3 =>
    have H := HA.out
    clear HA
    simp only [spec_StepOf.j0] at H
    have H' := Aside0.mk H
    clear H
    go_wp2
    go_loopg [3, 4] kj3 (fun kq v3 v4 w' => ∃ (x3_2 : Int) (x4_2 : Int), v3 = .int .i64 x3_2 ∧ v4 = .int .i64 x4_2 ∧ Aside0 (spec_StepOf.l0 kq a0 x3_2 x4_2 = some r) ∧ Aside0 (kq ≤ kj3) ∧ Drawn0 w w')
    case atStart => exact ⟨(x3_3), (0), rv, rv, H', ⟨Nat.le_refl _⟩, dr⟩
    case round =>
     clear H'
     obtain ⟨x3_2, x4_2, rfl, rfl, HA, HK2, ⟨m2, rfl⟩⟩ := hrel
     cases gk with
     | zero => exact absurd HA.out (by simp [spec_StepOf.l0])
     | succ k2 =>
      have H := HA.out
      clear HA
      simp only [spec_StepOf.l0] at H
      by_cases c10 : x4_2 < (wrap64 (Int.tdiv a0 6))
      ·rw [if_pos c10] at H
       have c10b0 := decide_eq_true c10
       clear c10
       have H' := Aside0.mk H
       clear H
       go_wp2
       go_roundg k2
       case measure => have := HJ3.out; have := HK2.out; omega
       case rel => exact ⟨(wrap64 (2 * x3_2)), (wrap64 (x4_2 + 1)), rv, rv, H', ⟨by have := HJ3.out; have := HK2.out; omega⟩, dr⟩
      ·rw [if_neg c10] at H
       have c10b0 := decide_eq_false c10
       clear c10
       obtain rfl := Option.some.inj H
       go_wp2
       go_ret
       exact ⟨rv, dr⟩
 ·replace c3 := Bool.eq_false_iff.mpr c3
  subst c3
  rw [if_neg nft] at H
  obtain rfl := Option.some.inj H
  go_enter Try.func141, Try.ntmps141
  go_wp2_with (first | ((with_reducible refine gate_callee (f := 58) rfl ?_); refine gD (some 6) Try.func58 #[.int .i64 a0, .int .i64 0, .int .i64 40] (spec_l01In.calls a0 0 40 false _ A2.out) ?_; intro nd))
  go_ret
  exact ⟨rv, dr⟩

def spec_LargeBack.f (k : Nat) (a0 : Int) (a1 : Int) : Option (Int) := (spec_l01In.f a0 (-5000) 5000).bind fun t163 => (if t163 = true then ((spec_StepOf.f k a1).bind fun t164 => (some (wrap64 (a0 * t164)))) else (some 0))
theorem spec_LargeBack.calls (k : Nat) (a0 : Int) (a1 : Int) (r : Int) (w : World) (h : spec_LargeBack.f k a0 a1 = some r) :
  Calls Try.prog 103 #[.int .i64 a0, .int .i64 a1] w fun e w' => e = .returned (.int .i64 r) ∧ Drawn0 w w' := by
 have H := h
 clear h
 unfold spec_LargeBack.f at H
 replace H := bnd H
 obtain ⟨t163, A3, H⟩ := H
 by_cases c4 : t163 = true
 ·subst c4
  rw [if_pos rfl] at H
  replace H := bnd H
  obtain ⟨t164, A5, H⟩ := H
  obtain rfl := Option.some.inj H
  go_enter Try.func103, Try.ntmps103
  go_wp2_with (first | ((with_reducible refine gate_callee (f := 58) rfl ?_); refine gD (some 6) Try.func58 #[.int .i64 a0, .int .i64 (-5000), .int .i64 5000] (spec_l01In.calls a0 (-5000) 5000 true _ A3.out) ?_; intro nd) | ((with_reducible refine gate_callee (f := 141) rfl ?_); refine gD (some 10) Try.func141 #[.int .i64 a1] (spec_StepOf.calls k a1 t164 _ A5.out) ?_; intro nd))
  go_ret
  exact ⟨rv, dr⟩
 ·replace c4 := Bool.eq_false_iff.mpr c4
  subst c4
  rw [if_neg nft] at H
  obtain rfl := Option.some.inj H
  go_enter Try.func103, Try.ntmps103
  go_wp2_with (first | ((with_reducible refine gate_callee (f := 58) rfl ?_); refine gD (some 6) Try.func58 #[.int .i64 a0, .int .i64 (-5000), .int .i64 5000] (spec_l01In.calls a0 (-5000) 5000 false _ A3.out) ?_; intro nd))
  go_ret
  exact ⟨rv, dr⟩

mutual
def spec_SignOf.j0 : Nat → Int → Int → Bool → Option (Int)
 | 0, _, _, _ => none
 | k + 1, x0, x1, x14 => if x14 = true then (some 0) else (spec_SignOf.l0 k 1 (Go.bits .and .i64 x0 x1))
def spec_SignOf.l0 : Nat → Int → Int → Option (Int)
 | 0, _, _ => none
 | k + 1, x5, x6 => if x6 > 0 then (if (Int.tmod x6 2) = 1 then (spec_SignOf.l0 k (wrap64 (-x5)) (wrap64 (Int.tdiv x6 2))) else (spec_SignOf.l0 k x5 (wrap64 (Int.tdiv x6 2)))) else (some x5)
end
def spec_SignOf.f (k : Nat) (a0 : Int) (a1 : Int) : Option (Int) := (spec_l01In.f a0 0 7).bind fun t165 => (if t165 = true then ((spec_l01In.f a1 0 7).bind fun t166 => (spec_SignOf.j0 k a0 a1 (!t166))) else (spec_SignOf.j0 k a0 a1 true))
theorem spec_SignOf.mono_l : ∀ k, (∀ y0 y1 y2, LeO (spec_SignOf.j0 k y0 y1 y2) (spec_SignOf.j0 (k + 1) y0 y1 y2)) ∧ (∀ y0 y1, LeO (spec_SignOf.l0 k y0 y1) (spec_SignOf.l0 (k + 1) y0 y1))
 | 0 => ⟨fun _ _ _ r h => by simp [spec_SignOf.j0] at h, fun _ _ r h => by simp [spec_SignOf.l0] at h⟩
 | k + 1 => by
  obtain ⟨ih0, ih1⟩ := spec_SignOf.mono_l k
  refine ⟨?_, ?_⟩
  ·intro y0 y1 y2
   unfold spec_SignOf.j0
   repeat' first
   | (with_reducible exact ih0 _ _ _)
   | (with_reducible exact ih1 _ _)
   | (with_reducible exact LeO.refl _)
   | (with_reducible exact LeO.none _)
   | (with_reducible refine LeO.ite ?_ ?_)
   | (with_reducible refine LeO.bind ?_ (fun _ => ?_))
   | exact ih0 _ _ _
   | exact ih1 _ _
   | exact LeO.none _
   | refine LeO.ite ?_ ?_
   | refine LeO.bind ?_ (fun _ => ?_)
  ·intro y0 y1
   unfold spec_SignOf.l0
   repeat' first
   | (with_reducible exact ih0 _ _ _)
   | (with_reducible exact ih1 _ _)
   | (with_reducible exact LeO.refl _)
   | (with_reducible exact LeO.none _)
   | (with_reducible refine LeO.ite ?_ ?_)
   | (with_reducible refine LeO.bind ?_ (fun _ => ?_))
   | exact ih0 _ _ _
   | exact ih1 _ _
   | exact LeO.none _
   | refine LeO.ite ?_ ?_
   | refine LeO.bind ?_ (fun _ => ?_)
theorem spec_SignOf.mono : ∀ a0 a1 k, LeO (spec_SignOf.f k a0 a1) (spec_SignOf.f (k + 1) a0 a1) := by
 intro a0 a1 k
 obtain ⟨ih0, ih1⟩ := spec_SignOf.mono_l k
 unfold spec_SignOf.f
 repeat' first
   | (with_reducible exact ih0 _ _ _)
   | (with_reducible exact ih1 _ _)
   | (with_reducible exact LeO.refl _)
   | (with_reducible exact LeO.none _)
   | (with_reducible refine LeO.ite ?_ ?_)
   | (with_reducible refine LeO.bind ?_ (fun _ => ?_))
   | exact ih0 _ _ _
   | exact ih1 _ _
   | exact LeO.none _
   | refine LeO.ite ?_ ?_
   | refine LeO.bind ?_ (fun _ => ?_)
theorem spec_SignOf.calls (k : Nat) (a0 : Int) (a1 : Int) (r : Int) (w : World) (h : spec_SignOf.f k a0 a1 = some r) :
  Calls Try.prog 162 #[.int .i64 a0, .int .i64 a1] w fun e w' => e = .returned (.int .i64 r) ∧ Drawn0 w w' := by
 have H := h
 clear h
 unfold spec_SignOf.f at H
 have HC3 := Aside0.mk H
 clear H
 go_enter Try.func162, Try.ntmps162
 go_upto_region 1 with (fail)
 go_cut [14] (fun v14 wc => ∃ (kq : Nat) (x14_2 : Bool), v14 = .bool x14_2 ∧ Aside0 (spec_SignOf.j0 kq a0 a1 x14_2 = some r) ∧ Aside0 (kq ≤ k) ∧ Drawn0 w wc)
 case first =>
  have H := HC3.out
  clear HC3
  replace H := bnd H
  obtain ⟨t165, A4, H⟩ := H
  by_cases c5 : t165 = true
  ·subst c5
   rw [if_pos rfl] at H
   replace H := bnd H
   obtain ⟨t166, A6, H⟩ := H
   have H' := Aside0.mk H
   clear H
   go_wp2_with (first | ((with_reducible refine gate_callee (f := 58) rfl ?_); refine gD (some 8) Try.func58 #[.int .i64 a0, .int .i64 0, .int .i64 7] (spec_l01In.calls a0 0 7 true _ A4.out) ?_; intro nd) | (go_at_call 58; (with_reducible refine (spec_l01In.calls a1 0 7 t166 _ A6.out).mono ?_); rintro e w' ⟨rfl, ⟨nd, rfl⟩⟩))
   go_meet
   case rel => exact ⟨_, (!t166), rv, H', om, dr⟩
  ·replace c5 := Bool.eq_false_iff.mpr c5
   subst c5
   rw [if_neg nft] at H
   have H' := Aside0.mk H
   clear H
   go_wp2_with (first | ((with_reducible refine gate_callee (f := 58) rfl ?_); refine gD (some 8) Try.func58 #[.int .i64 a0, .int .i64 0, .int .i64 7] (spec_l01In.calls a0 0 7 false _ A4.out) ?_; intro nd))
   go_meet
   case rel => exact ⟨_, (true), rv, H', om, dr⟩
 case rest =>
  clear HC3
  obtain ⟨kq, x14_2, rfl, HA, HJ2, ⟨mc2, rfl⟩⟩ := hcut
  cases kq with
  | zero => exact absurd HA.out (by simp [spec_SignOf.j0])
  | succ kj2 =>
   have H := HA.out
   clear HA
   simp only [spec_SignOf.j0] at H
   by_cases c7 : x14_2 = true
   ·subst c7
    rw [if_pos rfl] at H
    obtain rfl := Option.some.inj H
    go_wp2
    go_ret
    exact ⟨rv, dr⟩
   ·replace c7 := Bool.eq_false_iff.mpr c7
    subst c7
    rw [if_neg nft] at H
    have H' := Aside0.mk H
    clear H
    go_wp2
    go_loopg [5, 6] kj2 (fun kq v5 v6 w' => ∃ (x5_2 : Int) (x6_2 : Int), v5 = .int .i64 x5_2 ∧ v6 = .int .i64 x6_2 ∧ Aside0 (spec_SignOf.l0 kq x5_2 x6_2 = some r) ∧ Aside0 (kq ≤ kj2) ∧ Drawn0 w w')
    case atStart => exact ⟨(1), (Go.bits .and .i64 a0 a1), rv, rv, H', ⟨Nat.le_refl _⟩, dr⟩
    case round =>
     clear H'
     obtain ⟨x5_2, x6_2, rfl, rfl, HA, HK2, ⟨m2, rfl⟩⟩ := hrel
     cases gk with
     | zero => exact absurd HA.out (by simp [spec_SignOf.l0])
     | succ k2 =>
      have H := HA.out
      clear HA
      simp only [spec_SignOf.l0] at H
      by_cases c8 : x6_2 > 0
      ·rw [if_pos c8] at H
       have c8b0 : decide (0 < x6_2) = true := decide_eq_true c8
       clear c8
       by_cases c9 : (Int.tmod x6_2 2) = 1
       ·rw [if_pos c9] at H
        obtain ⟨c9b0, c9b1⟩ := eqt c9
        clear c9
        have H' := Aside0.mk H
        clear H
        go_wp2
        go_roundg k2
        case measure => have := HJ2.out; have := HK2.out; omega
        case rel => exact ⟨(wrap64 (-x5_2)), (wrap64 (Int.tdiv x6_2 2)), rv, rv, H', ⟨by have := HJ2.out; have := HK2.out; omega⟩, dr⟩
       ·rw [if_neg c9] at H
        obtain ⟨c9b0, c9b1⟩ := eqf c9
        have H' := Aside0.mk H
        clear H
        go_wp2
        go_roundg k2
        case measure => have := HJ2.out; have := HK2.out; omega
        case rel => exact ⟨(x5_2), (wrap64 (Int.tdiv x6_2 2)), rv, rv, H', ⟨by have := HJ2.out; have := HK2.out; omega⟩, dr⟩
      ·rw [if_neg c8] at H
       have c8b0 : decide (0 < x6_2) = false := decide_eq_false c8
       clear c8
       obtain rfl := Option.some.inj H
       go_wp2
       go_ret
       exact ⟨rv, dr⟩

def spec_l10Row.l0 : Nat → List Int → Int → Int → Int → Int → Option (Int)
 | 0, _, _, _, _, _ => none
 | k + 1, x0, x1, x2, x7, x8 => if x8 < 8 then (if 0 ≤ (wrap64 ((wrap64 (8 * x1)) + x8)) then (if (wrap64 ((wrap64 (8 * x1)) + x8)) < (x0.length : Int) then ((spec_SignOf.f k x2 x8).bind fun t168 => (spec_l10Row.l0 k x0 x1 x2 (wrap64 (x7 + (wrap64 ((rd x0 (wrap64 ((wrap64 (8 * x1)) + x8))) * t168)))) (wrap64 (x8 + 1)))) else (none)) else (none)) else (some x7)
def spec_l10Row.f (k : Nat) (l0 : List Int) (a1 : Int) (a2 : Int) : Option (Int) := spec_l10Row.l0 k l0 a1 a2 0 0
def spec_l10Row.T5 : Bool × List (List Nat × List Nat) := (true, [([], []), ([], []), ([], []), ([2], [2]), ([], []), ([3, 4], [3, 4]), ([1, 5], [1, 5]), ([6], [6]), ([], []), ([], []), ([8, 9], [8, 9]), ([7, 10], [7, 10]), ([0, 11], [0, 11]), ([12, 10, 0, 1, 2, 3, 4, 5, 6, 7, 8, 9, 10, 11, 12], [0, 12])])
def spec_l10Row.B5 : List Nat := [0, 0, 0, 4, 0, 28, 62, 126, 0, 0, 768, 2046, 4095, 8191]
theorem spec_l10Row.tab5 : rtab .any (opsOf Try.f161 5) = spec_l10Row.T5 := by kernel_rfl
theorem spec_l10Row.bits5 : waitsOk spec_l10Row.T5.2 spec_l10Row.B5 = true := by kernel_rfl
theorem spec_l10Row.calls (k : Nat) (A0 : Option Addr) (c0 : Nat) (l0 : List Int) (a1 : Int) (a2 : Int) (r : Int) (w : World) (hr0 : Kd.C (Kd.int .i64) w A0 l0.length l0) (hc0 : l0.length ≤ c0) (h : spec_l10Row.f k l0 a1 a2 = some r) :
  Calls Try.prog 161 #[.slice A0 l0.length c0, .int .i64 a1, .int .i64 a2] w fun e w' => e = .returned (.int .i64 r) ∧ Below w.heap.size w w' := by
 have HR0 := Aside0.mk hr0
 have HC0 := Aside0.mk hc0
 clear hr0 hc0
 have HB := Aside0.mk (Below.refl w.heap.size w)
 have H := h
 clear h
 unfold spec_l10Row.f at H
 have H' := Aside0.mk H
 clear H
 go_enter Try.func161, Try.ntmps161
 go_wp2
 go_loopg [7, 8] k (fun kq v7 v8 w' => ∃ (x7_1 : Int) (x8_1 : Int), v7 = .int .i64 x7_1 ∧ v8 = .int .i64 x8_1 ∧ Aside0 (spec_l10Row.l0 kq l0 a1 a2 x7_1 x8_1 = some r) ∧ Aside0 (kq ≤ k) ∧ Aside0 (Below w.heap.size w w'))
 case atStart => exact ⟨(0), (0), rv, rv, H', ⟨Nat.le_refl _⟩, bh HB⟩
 case round =>
  clear H'
  obtain ⟨x7_1, x8_1, rfl, rfl, HA, HK1, HB⟩ := hrel
  cases gk with
  | zero => exact absurd HA.out (by simp [spec_l10Row.l0])
  | succ k1 =>
   have H := HA.out
   clear HA
   simp only [spec_l10Row.l0] at H
   by_cases c4 : x8_1 < 8
   ·rw [if_pos c4] at H
    have c4b0 := decide_eq_true c4
    clear c4
    obtain ⟨ji5, hji5⟩ : ∃ j_ : Int, (wrap64 ((wrap64 (8 * a1)) + x8_1)) = j_ := ⟨_, rfl⟩
    replace H : (if 0 ≤ (ji5) then (if (ji5) < (l0.length : Int) then ((spec_SignOf.f k1 a2 x8_1).bind fun t168 => (spec_l10Row.l0 k1 l0 a1 a2 (wrap64 (x7_1 + (wrap64 ((rd l0 (ji5)) * t168)))) (wrap64 (x8_1 + 1)))) else (none)) else (none)) = some r := by first | (rw [hji5] at H; exact H) | (simp only [hji5] at H ⊢; exact H)
    have hji5w : (IntKind.i64.wrap ((wrap64 (8 * a1)) + x8_1)) = ji5 := (i64_w _).trans hji5
    by_cases c6 : 0 ≤ (ji5)
    ·rw [if_pos c6] at H
     have c6b0 := decide_eq_true c6
     clear c6
     by_cases c7 : (ji5) < (l0.length : Int)
     ·rw [if_pos c7] at H
      have c7b0 := decide_eq_true c7
      clear c7
      replace H := bnd H
      obtain ⟨t168, A8, H⟩ := H
      have H' := Aside0.mk H
      clear H
      try go_wp2
      replace HB := Aside0.mk (below_drew1 HB.out)
      have p167 : 0 ≤ ((ji5) : Int) := od
      have q167 : (ji5) < (l0.length : Int) := od
      obtain ⟨ad167, e167, hx167_0⟩ := Kd.at_int HR0.out (ji5) p167 q167
      have hw167_0 := hx167_0
      cases e167
      replace hx167_0 := (HB.out.cell (World.block_lt_of_cell? w _ hx167_0)).trans hx167_0
      replace p167 := eq_true p167
      replace q167 := eq_true q167
      refine start_ (n := 14) (S := fun w' => w'.cell? (ad167.add ((ji5)).toNat) = some (.int .i64 (rd l0 (ji5)))) (ds := []) (ba 14 0) (by kernel_rfl) rfl rfl ((hcl HB hw167_0)) (fun hHeld => ?_); refine with_tabW spec_l10Row.tab5 spec_l10Row.bits5 (fun HT_ HW_ => ?_)
      generalize wr.drew = w9 at HB hx167_0 hHeld ⊢
      refine pu 0 13 (ba 14 1) ?_
      refine pu 1 14 (ba 14 3) ?_
      refine pu 2 15 (ba 14 7) ?_
      refine pu 3 16 (ba 14 15) ?_
      refine pu 4 17 (ba 14 31) ?_
      refine pu 5 18 (ba 14 63) ?_
      refine pu 6 19 (ba 14 127) ?_
      refine pu 8 21 (ba 14 383) ?_
      refine pu 9 22 (ba 14 895) ?_
      refine take_ (i := 7) (N := some 20) (v := ?_) (a' := ?_) (ba 14 1023) rfl rfl (take_ofW HT_.out HW_.out (by kernel_rfl)) (fun _ _ _ h => h) (Or.inl ⟨by rfl, ?_⟩) hHeld ?_ ?_
      rotate_left
      ·intro w' s0
       go_simp
       with_reducible rfl
      rotate_left
      ·simp only [Act.put, List.setIfInBounds_toArray, List.set_cons_zero, List.set_cons_succ, i64_w, i32_w]
       rfl
      refine on 10 23 (ba 14 2047) (fun K hK => ?_)
      refine gS Try.func162 #[.int .i64 a2, .int .i64 x8_1] ?_
      with_reducible refine (spec_SignOf.calls k1 a2 x8_1 t168 _ A8.out).mono ?_
      rintro e w' ⟨rfl, ⟨nd, rfl⟩⟩
      refine ⟨_, rfl, ?_⟩
      refine hK.out _ _ ((hcl HB hw167_0)) (fun hHeld => ?_)
      clear hK K
      refine nm ?_
      refine pu 11 24 (ba 14 4095) ?_
      refine pu 12 25 (ba 14 8191) ?_
      refine pu 13 7 (ba 14 16383) ?_
      refine done_ (done_of HT_.out (by kernel_rfl)) ?_
      try go_wp2
      go_roundg k1
      case measure => have := HK1.out; omega
      case rel => exact ⟨(wrap64 (x7_1 + (wrap64 ((rd l0 (ji5)) * t168)))), (wrap64 (x8_1 + 1)), (by first | rfl | (simp; done) | (simp only [← hji5] <;> (first | rfl | simp)) | (simp [*]; done)), rv, H', ⟨by have := HK1.out; omega⟩, bh HB⟩
     ·rw [if_neg c7] at H
      exact absurd H (by simp)
    ·rw [if_neg c6] at H
     exact absurd H (by simp)
   ·rw [if_neg c4] at H
    have c4b0 := decide_eq_false c4
    clear c4
    obtain rfl := Option.some.inj H
    go_wp2
    go_ret
    exact ⟨re, bo HB⟩

end Go.Proofs.Ytnaccgommclhaaa.QFnExactSquareDots
