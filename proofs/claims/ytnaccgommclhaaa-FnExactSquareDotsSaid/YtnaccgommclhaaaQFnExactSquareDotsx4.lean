/- What the law reaches, as plain functions, each with the proof that its call comes to its answer: written by a program for this claim. -/
import Derived.Test.YtnaccgommclhaaaQFnExactSquareDotsx0
import Derived.Test.YtnaccgommclhaaaQFnExactSquareDotsx1
import Derived.Test.YtnaccgommclhaaaUFnExactSquareDotsV5
namespace Go.Proofs.Ytnaccgommclhaaa.QFnExactSquareDots
open Go.RowKit Go.Proofs.YtnaccgommclhaaaW.PrintWords Go.Proofs.YtnaccgommclhaaaW.PrintLast Go.Proofs.YtnaccgommclhaaaW.PrintMore Go.Proofs.YtnaccgommclhaaaV
attribute [local go_sem] max2_int min2_int max_two min_two max_three min_three max_four min_four   -- for this text's walks alone
set_option linter.unusedVariables false
set_option linter.unusedSimpArgs false
set_option maxHeartbeats 8000000
set_option maxRecDepth 100000

mutual
def spec_ScanAt.j0 : Nat → Int → Int → Bool → Option (Int)
 | 0, _, _, _ => none
 | k + 1, x0, x1, x25 => if x25 = true then (some (-1)) else (spec_ScanAt.l0 k x0 x1 0 0)
def spec_ScanAt.l0 : Nat → Int → Int → Int → Int → Option (Int)
 | 0, _, _, _, _ => none
 | k + 1, x0, x1, x5, x6 => if x6 ≤ (wrap64 ((wrap64 (2 * x0)) - 2)) then (spec_ScanAt.l1 k x0 x1 x5 x6 0) else (some (-1))
def spec_ScanAt.l1 : Nat → Int → Int → Int → Int → Int → Option (Int)
 | 0, _, _, _, _, _ => none
 | k + 1, x0, x1, x5, x6, x7 => if x7 < x0 then (if (Int.tmod x6 2) = 0 then (spec_ScanAt.j3 k x0 x1 x5 x6 x7 (wrap64 ((wrap64 (x0 - 1)) - x7))) else (spec_ScanAt.j3 k x0 x1 x5 x6 x7 x7)) else (spec_ScanAt.l0 k x0 x1 x5 (wrap64 (x6 + 1)))
def spec_ScanAt.j3 : Nat → Int → Int → Int → Int → Int → Int → Option (Int)
 | 0, _, _, _, _, _, _ => none
 | k + 1, x0, x1, x5, x6, x7, x8 => (spec_l01In.f (wrap64 (x6 - x8)) 0 (wrap64 (x0 - 1))).bind fun t152 => (if t152 = true then (if x5 = x1 then (some (wrap64 ((wrap64 ((wrap64 (x0 * x8)) + x6)) - x8))) else (spec_ScanAt.l1 k x0 x1 (wrap64 (x5 + 1)) x6 (wrap64 (x7 + 1)))) else (spec_ScanAt.l1 k x0 x1 x5 x6 (wrap64 (x7 + 1))))
end
def spec_ScanAt.f (k : Nat) (a0 : Int) (a1 : Int) : Option (Int) := if a0 = 4 then (if a1 < 0 then (spec_ScanAt.j0 k a0 a1 true) else (spec_ScanAt.j0 k a0 a1 (decide (a1 ≥ (wrap64 (a0 * a0)))))) else (if a0 = 8 then (if a1 < 0 then (spec_ScanAt.j0 k a0 a1 true) else (spec_ScanAt.j0 k a0 a1 (decide (a1 ≥ (wrap64 (a0 * a0)))))) else (spec_ScanAt.j0 k a0 a1 true))
theorem spec_ScanAt.mono_l : ∀ k, (∀ y0 y1 y2, LeO (spec_ScanAt.j0 k y0 y1 y2) (spec_ScanAt.j0 (k + 1) y0 y1 y2)) ∧ (∀ y0 y1 y2 y3, LeO (spec_ScanAt.l0 k y0 y1 y2 y3) (spec_ScanAt.l0 (k + 1) y0 y1 y2 y3)) ∧ (∀ y0 y1 y2 y3 y4, LeO (spec_ScanAt.l1 k y0 y1 y2 y3 y4) (spec_ScanAt.l1 (k + 1) y0 y1 y2 y3 y4)) ∧ (∀ y0 y1 y2 y3 y4 y5, LeO (spec_ScanAt.j3 k y0 y1 y2 y3 y4 y5) (spec_ScanAt.j3 (k + 1) y0 y1 y2 y3 y4 y5))
 | 0 => ⟨fun _ _ _ r h => by simp [spec_ScanAt.j0] at h, fun _ _ _ _ r h => by simp [spec_ScanAt.l0] at h, fun _ _ _ _ _ r h => by simp [spec_ScanAt.l1] at h, fun _ _ _ _ _ _ r h => by simp [spec_ScanAt.j3] at h⟩
 | k + 1 => by
  obtain ⟨ih0, ih1, ih2, ih3⟩ := spec_ScanAt.mono_l k
  refine ⟨?_, ?_, ?_, ?_⟩
  ·intro y0 y1 y2
   unfold spec_ScanAt.j0
   repeat' first
   | (with_reducible exact ih0 _ _ _)
   | (with_reducible exact ih1 _ _ _ _)
   | (with_reducible exact ih2 _ _ _ _ _)
   | (with_reducible exact ih3 _ _ _ _ _ _)
   | (with_reducible exact LeO.refl _)
   | (with_reducible exact LeO.none _)
   | (with_reducible refine LeO.ite ?_ ?_)
   | (with_reducible refine LeO.bind ?_ (fun _ => ?_))
   | exact ih0 _ _ _
   | exact ih1 _ _ _ _
   | exact ih2 _ _ _ _ _
   | exact ih3 _ _ _ _ _ _
   | exact LeO.none _
   | refine LeO.ite ?_ ?_
   | refine LeO.bind ?_ (fun _ => ?_)
  ·intro y0 y1 y2 y3
   unfold spec_ScanAt.l0
   repeat' first
   | (with_reducible exact ih0 _ _ _)
   | (with_reducible exact ih1 _ _ _ _)
   | (with_reducible exact ih2 _ _ _ _ _)
   | (with_reducible exact ih3 _ _ _ _ _ _)
   | (with_reducible exact LeO.refl _)
   | (with_reducible exact LeO.none _)
   | (with_reducible refine LeO.ite ?_ ?_)
   | (with_reducible refine LeO.bind ?_ (fun _ => ?_))
   | exact ih0 _ _ _
   | exact ih1 _ _ _ _
   | exact ih2 _ _ _ _ _
   | exact ih3 _ _ _ _ _ _
   | exact LeO.none _
   | refine LeO.ite ?_ ?_
   | refine LeO.bind ?_ (fun _ => ?_)
  ·intro y0 y1 y2 y3 y4
   unfold spec_ScanAt.l1
   repeat' first
   | (with_reducible exact ih0 _ _ _)
   | (with_reducible exact ih1 _ _ _ _)
   | (with_reducible exact ih2 _ _ _ _ _)
   | (with_reducible exact ih3 _ _ _ _ _ _)
   | (with_reducible exact LeO.refl _)
   | (with_reducible exact LeO.none _)
   | (with_reducible refine LeO.ite ?_ ?_)
   | (with_reducible refine LeO.bind ?_ (fun _ => ?_))
   | exact ih0 _ _ _
   | exact ih1 _ _ _ _
   | exact ih2 _ _ _ _ _
   | exact ih3 _ _ _ _ _ _
   | exact LeO.none _
   | refine LeO.ite ?_ ?_
   | refine LeO.bind ?_ (fun _ => ?_)
  ·intro y0 y1 y2 y3 y4 y5
   unfold spec_ScanAt.j3
   repeat' first
   | (with_reducible exact ih0 _ _ _)
   | (with_reducible exact ih1 _ _ _ _)
   | (with_reducible exact ih2 _ _ _ _ _)
   | (with_reducible exact ih3 _ _ _ _ _ _)
   | (with_reducible exact LeO.refl _)
   | (with_reducible exact LeO.none _)
   | (with_reducible refine LeO.ite ?_ ?_)
   | (with_reducible refine LeO.bind ?_ (fun _ => ?_))
   | exact ih0 _ _ _
   | exact ih1 _ _ _ _
   | exact ih2 _ _ _ _ _
   | exact ih3 _ _ _ _ _ _
   | exact LeO.none _
   | refine LeO.ite ?_ ?_
   | refine LeO.bind ?_ (fun _ => ?_)
theorem spec_ScanAt.mono : ∀ a0 a1 k, LeO (spec_ScanAt.f k a0 a1) (spec_ScanAt.f (k + 1) a0 a1) := by
 intro a0 a1 k
 obtain ⟨ih0, ih1, ih2, ih3⟩ := spec_ScanAt.mono_l k
 unfold spec_ScanAt.f
 repeat' first
   | (with_reducible exact ih0 _ _ _)
   | (with_reducible exact ih1 _ _ _ _)
   | (with_reducible exact ih2 _ _ _ _ _)
   | (with_reducible exact ih3 _ _ _ _ _ _)
   | (with_reducible exact LeO.refl _)
   | (with_reducible exact LeO.none _)
   | (with_reducible refine LeO.ite ?_ ?_)
   | (with_reducible refine LeO.bind ?_ (fun _ => ?_))
   | exact ih0 _ _ _
   | exact ih1 _ _ _ _
   | exact ih2 _ _ _ _ _
   | exact ih3 _ _ _ _ _ _
   | exact LeO.none _
   | refine LeO.ite ?_ ?_
   | refine LeO.bind ?_ (fun _ => ?_)
theorem spec_ScanAt.calls (k : Nat) (a0 : Int) (a1 : Int) (r : Int) (w : World) (h : spec_ScanAt.f k a0 a1 = some r) :
  Calls Try.prog 140 #[.int .i64 a0, .int .i64 a1] w fun e w' => e = .returned (.int .i64 r) ∧ Drawn0 w w' := by
 have H := h
 clear h
 unfold spec_ScanAt.f at H
 have HC3 := Aside0.mk H
 clear H
 go_enter Try.func140, Try.ntmps140
 go_upto_region 1 with (fail)
 go_cut [25] (fun v25 wc => ∃ (kq : Nat) (x25_2 : Bool), v25 = .bool x25_2 ∧ Aside0 (spec_ScanAt.j0 kq a0 a1 x25_2 = some r) ∧ Aside0 (kq ≤ k) ∧ Drawn0 w wc)
 case first =>
  have H := HC3.out
  clear HC3
  by_cases c4 : a0 = 4
  ·rw [if_pos c4] at H
   obtain ⟨c4b0, c4b1⟩ := eqt c4
   clear c4
   (first | rw [c4b0] | (simp only [i64_w, i32_w]; rw [c4b0]) | skip)
   by_cases c5 : a1 < 0
   ·rw [if_pos c5] at H
    have c5b0 := decide_eq_true c5
    clear c5
    have H' := Aside0.mk H
    clear H
    go_wp2
    go_meet
    case rel => exact ⟨_, (true), rv, H', om, dr⟩
   ·rw [if_neg c5] at H
    have c5b0 := decide_eq_false c5
    clear c5
    have H' := Aside0.mk H
    clear H
    go_wp2
    go_meet
    case rel => exact ⟨_, (decide (a1 ≥ (wrap64 (a0 * a0)))), rv, H', om, dr⟩
  ·rw [if_neg c4] at H
   obtain ⟨c4b0, c4b1⟩ := eqf c4
   (first | rw [c4b0] | (simp only [i64_w, i32_w]; rw [c4b0]) | skip)
   by_cases c6 : a0 = 8
   ·rw [if_pos c6] at H
    obtain ⟨c6b0, c6b1⟩ := eqt c6
    clear c6
    by_cases c7 : a1 < 0
    ·rw [if_pos c7] at H
     have c7b0 := decide_eq_true c7
     clear c7
     have H' := Aside0.mk H
     clear H
     go_wp2
     go_meet
     case rel => exact ⟨_, (true), rv, H', om, dr⟩
    ·rw [if_neg c7] at H
     have c7b0 := decide_eq_false c7
     clear c7
     have H' := Aside0.mk H
     clear H
     go_wp2
     go_meet
     case rel => exact ⟨_, (decide (a1 ≥ (wrap64 (a0 * a0)))), rv, H', om, dr⟩
   ·rw [if_neg c6] at H
    obtain ⟨c6b0, c6b1⟩ := eqf c6
    have H' := Aside0.mk H
    clear H
    go_wp2
    go_meet
    case rel => exact ⟨_, (true), rv, H', om, dr⟩
 case rest =>
  clear HC3
  obtain ⟨kq, x25_2, rfl, HA, HJ2, ⟨mc2, rfl⟩⟩ := hcut
  cases kq with
  | zero => exact absurd HA.out (by simp [spec_ScanAt.j0])
  | succ kj2 =>
   have H := HA.out
   clear HA
   simp only [spec_ScanAt.j0] at H
   by_cases c8 : x25_2 = true
   ·subst c8
    rw [if_pos rfl] at H
    obtain rfl := Option.some.inj H
    go_wp2
    go_ret
    exact ⟨rv, dr⟩
   ·replace c8 := Bool.eq_false_iff.mpr c8
    subst c8
    rw [if_neg nft] at H
    have H' := Aside0.mk H
    clear H
    go_wp2
    go_loopg [5, 6] kj2 (fun kq v5 v6 w' => ∃ (x5_2 : Int) (x6_2 : Int), v5 = .int .i64 x5_2 ∧ v6 = .int .i64 x6_2 ∧ Aside0 (spec_ScanAt.l0 kq a0 a1 x5_2 x6_2 = some r) ∧ Aside0 (kq ≤ kj2) ∧ Drawn0 w w')
    case atStart => exact ⟨(0), (0), rv, rv, H', ⟨Nat.le_refl _⟩, dr⟩
    case round =>
     clear H'
     obtain ⟨x5_2, x6_2, rfl, rfl, HA, HK2, ⟨m2, rfl⟩⟩ := hrel
     cases gk with
     | zero => exact absurd HA.out (by simp [spec_ScanAt.l0])
     | succ k2 =>
      have H := HA.out
      clear HA
      simp only [spec_ScanAt.l0] at H
      by_cases c9 : x6_2 ≤ (wrap64 ((wrap64 (2 * a0)) - 2))
      ·rw [if_pos c9] at H
       have c9b0 := decide_eq_true c9
       clear c9
       have H' := Aside0.mk H
       clear H
       go_wp2
       go_loopg [5, 7] k2 (fun kq v5 v7 w' => ∃ (x5_3 : Int) (x7_3 : Int), v5 = .int .i64 x5_3 ∧ v7 = .int .i64 x7_3 ∧ Aside0 (spec_ScanAt.l1 kq a0 a1 x5_3 x6_2 x7_3 = some r) ∧ Aside0 (kq ≤ k2) ∧ Drawn0 w w')
       case atStart => exact ⟨(x5_2), (0), rv, rv, H', ⟨Nat.le_refl _⟩, dr⟩
       case round =>
        clear H'
        obtain ⟨x5_3, x7_3, rfl, rfl, HA, HK3, ⟨m3, rfl⟩⟩ := hrel
        cases gk with
        | zero => exact absurd HA.out (by simp [spec_ScanAt.l1])
        | succ k3 =>
         have H := HA.out
         clear HA
         simp only [spec_ScanAt.l1] at H
         by_cases c10 : x7_3 < a0
         ·rw [if_pos c10] at H
          have c10b0 := decide_eq_true c10
          clear c10
          have HC11 := Aside0.mk H
          clear H
          go_upto_if 41 with (fail)
          go_cut [8] (fun v8 wc => ∃ (kq : Nat) (x8_10 : Int), v8 = .int .i64 x8_10 ∧ Aside0 (spec_ScanAt.j3 kq a0 a1 x5_3 x6_2 x7_3 x8_10 = some r) ∧ Aside0 (kq ≤ k3) ∧ Drawn0 w wc)
          case first =>
           have H := HC11.out
           clear HC11
           by_cases c12 : (Int.tmod x6_2 2) = 0
           ·rw [if_pos c12] at H
            obtain ⟨c12b0, c12b1⟩ := eqt c12
            clear c12
            (first | rw [c12b0] | (simp only [i64_w, i32_w]; rw [c12b0]) | skip)
            have H' := Aside0.mk H
            clear H
            go_wp2
            go_meet
            case rel => exact ⟨_, (wrap64 ((wrap64 (a0 - 1)) - x7_3)), rv, H', ⟨by have := HJ2.out; have := HK2.out; have := HK3.out; first | omega | exact Nat.le_refl _⟩, dr⟩
           ·rw [if_neg c12] at H
            obtain ⟨c12b0, c12b1⟩ := eqf c12
            (first | rw [c12b0] | (simp only [i64_w, i32_w]; rw [c12b0]) | skip)
            have H' := Aside0.mk H
            clear H
            go_wp2
            go_meet
            case rel => exact ⟨_, (x7_3), rv, H', ⟨by have := HJ2.out; have := HK2.out; have := HK3.out; first | omega | exact Nat.le_refl _⟩, dr⟩
          case rest =>
           clear HC11
           obtain ⟨kq, x8_10, rfl, HA, HJ10, ⟨mc10, rfl⟩⟩ := hcut
           cases kq with
           | zero => exact absurd HA.out (by simp [spec_ScanAt.j3])
           | succ kj10 =>
            have H := HA.out
            clear HA
            simp only [spec_ScanAt.j3] at H
            replace H := bnd H
            obtain ⟨t152, A13, H⟩ := H
            by_cases c14 : t152 = true
            ·subst c14
             rw [if_pos rfl] at H
             by_cases c15 : x5_3 = a1
             ·rw [if_pos c15] at H
              obtain ⟨c15b0, c15b1⟩ := eqt c15
              clear c15
              obtain rfl := Option.some.inj H
              go_wp2_with (first | ((with_reducible refine gate_callee (f := 58) rfl ?_); refine gD (some 51) Try.func58 #[.int .i64 (wrap64 (x6_2 - x8_10)), .int .i64 0, .int .i64 (wrap64 (a0 - 1))] (spec_l01In.calls (wrap64 (x6_2 - x8_10)) 0 (wrap64 (a0 - 1)) true _ A13.out) ?_ (hargs := (by (try simp only [List.map_toArray, List.map_cons, List.map_nil]); first | done | rfl | (rw [show (wrap64 (x6_2 - x8_10)) = (x6_2 - x8_10) from by unfold wrap64; omega, show (wrap64 (a0 - 1)) = (a0 - 1) from by unfold wrap64; omega]; rfl) | (simp only [List.length_drop, List.length_take]; rfl))); intro nd))
              go_ret
              exact ⟨rv, dr⟩
             ·rw [if_neg c15] at H
              obtain ⟨c15b0, c15b1⟩ := eqf c15
              have H' := Aside0.mk H
              clear H
              go_wp2_with (first | ((with_reducible refine gate_callee (f := 58) rfl ?_); refine gD (some 51) Try.func58 #[.int .i64 (wrap64 (x6_2 - x8_10)), .int .i64 0, .int .i64 (wrap64 (a0 - 1))] (spec_l01In.calls (wrap64 (x6_2 - x8_10)) 0 (wrap64 (a0 - 1)) true _ A13.out) ?_ (hargs := (by (try simp only [List.map_toArray, List.map_cons, List.map_nil]); first | done | rfl | (rw [show (wrap64 (x6_2 - x8_10)) = (x6_2 - x8_10) from by unfold wrap64; omega, show (wrap64 (a0 - 1)) = (a0 - 1) from by unfold wrap64; omega]; rfl) | (simp only [List.length_drop, List.length_take]; rfl))); intro nd))
              go_roundg kj10
              case measure => have := HJ2.out; have := HK2.out; have := HK3.out; have := HJ10.out; omega
              case rel => exact ⟨(wrap64 (x5_3 + 1)), (wrap64 (x7_3 + 1)), rv, rv, H', ⟨by have := HJ2.out; have := HK2.out; have := HK3.out; have := HJ10.out; omega⟩, dr⟩
            ·replace c14 := Bool.eq_false_iff.mpr c14
             subst c14
             rw [if_neg nft] at H
             have H' := Aside0.mk H
             clear H
             go_wp2_with (first | ((with_reducible refine gate_callee (f := 58) rfl ?_); refine gD (some 51) Try.func58 #[.int .i64 (wrap64 (x6_2 - x8_10)), .int .i64 0, .int .i64 (wrap64 (a0 - 1))] (spec_l01In.calls (wrap64 (x6_2 - x8_10)) 0 (wrap64 (a0 - 1)) false _ A13.out) ?_ (hargs := (by (try simp only [List.map_toArray, List.map_cons, List.map_nil]); first | done | rfl | (rw [show (wrap64 (x6_2 - x8_10)) = (x6_2 - x8_10) from by unfold wrap64; omega, show (wrap64 (a0 - 1)) = (a0 - 1) from by unfold wrap64; omega]; rfl) | (simp only [List.length_drop, List.length_take]; rfl))); intro nd))
             go_roundg kj10
             case measure => have := HJ2.out; have := HK2.out; have := HK3.out; have := HJ10.out; omega
             case rel => exact ⟨(x5_3), (wrap64 (x7_3 + 1)), rv, rv, H', ⟨by have := HJ2.out; have := HK2.out; have := HK3.out; have := HJ10.out; omega⟩, dr⟩
         ·rw [if_neg c10] at H
          have c10b0 := decide_eq_false c10
          clear c10
          have H' := Aside0.mk H
          clear H
          go_wp2
          go_roundg k3
          case measure => have := HJ2.out; have := HK2.out; have := HK3.out; omega
          case rel => exact ⟨(x5_3), (wrap64 (x6_2 + 1)), rv, rv, H', ⟨by have := HJ2.out; have := HK2.out; have := HK3.out; omega⟩, dr⟩
      ·rw [if_neg c9] at H
       have c9b0 := decide_eq_false c9
       clear c9
       obtain rfl := Option.some.inj H
       go_wp2
       go_ret
       exact ⟨rv, dr⟩

mutual
def spec_Unscanned.j0 : Nat → Int → List Int → Bool → Option (List Int × Bool)
 | 0, _, _, _ => none
 | k + 1, x0, x1, x21 => if x21 = true then (some ((([] : List Int)), false)) else (if 0 ≤ (x1.length : Int) then (if ((x1.length : Int) : Int).toNat ≤ 35184372088832 then (spec_Unscanned.l0 k x0 x1 (List.replicate ((x1.length : Int) : Int).toNat 0) 0) else (none)) else (none))
def spec_Unscanned.l0 : Nat → Int → List Int → List Int → Int → Option (List Int × Bool)
 | 0, _, _, _, _ => none
 | k + 1, x0, x1, x6, x7 => if x7 < (wrap64 (x0 * x0)) then ((spec_ScanAt.f k x0 x7).bind fun t159 => (if 0 ≤ x7 then (if x7 < (x1.length : Int) then (if 0 ≤ t159 then (if t159 < (x6.length : Int) then (spec_Unscanned.l0 k x0 x1 (x6.set (t159 : Int).toNat (rd x1 x7)) (wrap64 (x7 + 1))) else (none)) else (none)) else (none)) else (none))) else (some (x6, true))
end
def spec_Unscanned.f (k : Nat) (a0 : Int) (l1 : List Int) : Option (List Int × Bool) := if a0 = 4 then (spec_Unscanned.j0 k a0 l1 ((l1.length : Int) != (wrap64 (a0 * a0)))) else (if a0 = 8 then (spec_Unscanned.j0 k a0 l1 ((l1.length : Int) != (wrap64 (a0 * a0)))) else (spec_Unscanned.j0 k a0 l1 true))
def spec_Unscanned.T7 : Bool × List (List Nat × List Nat) := (true, [([], []), ([], []), ([], []), ([1, 2], [1, 2]), ([], []), ([], []), ([4, 5], [4, 5]), ([6], [6]), ([0, 3, 0, 1, 2, 3, 4, 5, 6, 7], [0, 3]), ([8, 7, 3, 0, 1, 2, 3, 4, 5, 6, 7], [7, 8])])
def spec_Unscanned.B7 : List Nat := [0, 0, 0, 6, 0, 0, 48, 112, 255, 511]
theorem spec_Unscanned.tab7 : rtab .any (opsOf Try.f102 7) = spec_Unscanned.T7 := by kernel_rfl
theorem spec_Unscanned.bits7 : waitsOk spec_Unscanned.T7.2 spec_Unscanned.B7 = true := by kernel_rfl
theorem spec_Unscanned.calls (k : Nat) (a0 : Int) (A1 : Option Addr) (c1 : Nat) (l1 : List Int) (r1 : List Int) (r2 : Bool) (w : World) (hr1 : Kd.C (Kd.int .i64) w A1 l1.length l1) (hc1 : l1.length ≤ c1) (h : spec_Unscanned.f k a0 l1 = some (r1, r2)) :
  Calls Try.prog 102 #[.int .i64 a0, .slice A1 l1.length c1] w fun e w' => ∃ v0_ : Value, e = .returned (.tuple #[v0_, .bool r2]) ∧ Kd.R (Kd.int .i64) 3 w' w.heap.size (fun _ => True) v0_ r1 ∧ Below w.heap.size w w' := by
 have HR1 := Aside0.mk hr1
 have HC1 := Aside0.mk hc1
 clear hr1 hc1
 have HB := Aside0.mk (Below.refl w.heap.size w)
 have H := h
 clear h
 unfold spec_Unscanned.f at H
 have HC3 := Aside0.mk H
 clear H
 go_enter Try.func102, Try.ntmps102
 go_upto_region 1 with (fail)
 go_cut [21] (fun v21 wc => ∃ (kq : Nat) (x21_2 : Bool), v21 = .bool x21_2 ∧ Aside0 (spec_Unscanned.j0 kq a0 l1 x21_2 = some (r1, r2)) ∧ Aside0 (kq ≤ k) ∧ Aside0 (Below w.heap.size w wc))
 case first =>
  have H := HC3.out
  clear HC3
  by_cases c4 : a0 = 4
  ·rw [if_pos c4] at H
   obtain ⟨c4b0, c4b1⟩ := eqt c4
   clear c4
   (first | rw [c4b0] | (simp only [i64_w, i32_w]; rw [c4b0]) | skip)
   have H' := Aside0.mk H
   clear H
   go_wp2
   go_meet
   case rel => exact ⟨_, (((l1.length : Int) != (wrap64 (a0 * a0)))), rv, H', om, bh HB⟩
  ·rw [if_neg c4] at H
   obtain ⟨c4b0, c4b1⟩ := eqf c4
   (first | rw [c4b0] | (simp only [i64_w, i32_w]; rw [c4b0]) | skip)
   by_cases c5 : a0 = 8
   ·rw [if_pos c5] at H
    obtain ⟨c5b0, c5b1⟩ := eqt c5
    clear c5
    have H' := Aside0.mk H
    clear H
    go_wp2
    go_meet
    case rel => exact ⟨_, (((l1.length : Int) != (wrap64 (a0 * a0)))), rv, H', om, bh HB⟩
   ·rw [if_neg c5] at H
    obtain ⟨c5b0, c5b1⟩ := eqf c5
    have H' := Aside0.mk H
    clear H
    go_wp2
    go_meet
    case rel => exact ⟨_, (true), rv, H', om, bh HB⟩
 case rest =>
  clear HC3
  obtain ⟨kq, x21_2, rfl, HA, HJ2, HB⟩ := hcut
  cases kq with
  | zero => exact absurd HA.out (by simp [spec_Unscanned.j0])
  | succ kj2 =>
   have H := HA.out
   clear HA
   simp only [spec_Unscanned.j0] at H
   by_cases c6 : x21_2 = true
   ·subst c6
    rw [if_pos rfl] at H
    obtain ⟨y153, hy153⟩ : ∃ y_ : List Int, y_ = (([] : List Int)) := ⟨_, rfl⟩
    replace H : (some (y153, false)) = some (r1, r2) := by subst hy153; exact H
    have Ny153 := Aside0.mk hy153
    clear hy153
    simp only [Option.some.injEq, Prod.mk.injEq] at H
    obtain ⟨rfl, rfl⟩ := H
    go_wp2_with (first | ((with_reducible refine gate_dst (N := 22) rfl ?_); (try (refine gate_guard (by rfl) ?_; dsimp only)); refine Kd.R_lit (Kd.int .i64) _ 3 ?hg (N := 22) ?hd (xs := ([] : List Int)) (inner := []) (ok := fun _ => True) (okp := fun _ => True) ?hr ?hp (fun _ hk => hk) trivial (Below.refl _ _) (Nat.le_refl _) (by simp) ?_; (case hd => rfl); (case hg => rfl); (case hr => first | (go_simp; done) | (go_simp; rfl)); (case hp => exact (Reps.none _ _)); intro v154 w7 ho8 hb hg_ hnew_; clear hg_ hnew_; (first | rw [← Ny153.out] at ho8 | (simp only [Int.reduceToNat] at ho8; rw [← Ny153.out] at ho8)); have HO155 := Aside0.mk (Kd.R_lower ho8 (below_size (bo HB))); replace HB := bs HB hb; clear hb ho8))
    go_ret2
    exact ⟨_, re, ro HO155.out, bo HB⟩
   ·replace c6 := Bool.eq_false_iff.mpr c6
    subst c6
    rw [if_neg nft] at H
    by_cases c9 : 0 ≤ (l1.length : Int)
    ·rw [if_pos c9] at H
     have c9b0 := eq_true c9
     have c9b1 := decide_eq_true c9
     clear c9
     by_cases c10 : ((l1.length : Int) : Int).toNat ≤ 35184372088832
     ·rw [if_pos c10] at H
      have c10b0 := eq_true c10
      have c10b1 := decide_eq_true c10
      clear c10
      obtain ⟨y156, hy156⟩ : ∃ y_ : List Int, y_ = (List.replicate ((l1.length : Int) : Int).toNat 0) := ⟨_, rfl⟩
      replace H : (spec_Unscanned.l0 kj2 a0 l1 y156 0) = some (r1, r2) := by subst hy156; exact H
      have Ny156 := Aside0.mk hy156
      clear hy156
      have H' := Aside0.mk H
      clear H
      go_wp2_with (first | ((with_reducible refine gate_dst (N := 25) rfl ?_); (try (refine gate_guard (by rfl) ?_; dsimp only)); refine Kd.R_make (Kd.int .i64) _ 3 rfl (N := 25) rfl 35 _ _ rfl (l1.length : Int) rfl rfl Try.underlying35 (.int .i64 0) 8 info3 rfl (by decide) (by omega) 0 (ok := fun _ => True) (okp := fun _ => True) rfl (fun _ hk => hk) trivial (od) (Nat.le_trans (Nat.mul_le_mul_right _ (od : (l1.length : Int).toNat ≤ 35184372088832)) (by omega)) (Below.refl _ _) (Nat.le_refl _) ?_; intro v157 w11 ho12 hb hg_ hnew_; clear hg_ hnew_; (first | rw [← Ny156.out] at ho12 | (simp only [Int.reduceToNat] at ho12; rw [← Ny156.out] at ho12)); have HO158 := Aside0.mk (Kd.R_lower ho12 (below_size (bo HB))); replace HB := bs HB hb; clear hb ho12))
      go_loopg [7] kj2 (fun kq v7 w' => ∃ (x6_2 : List Int) (x7_2 : Int), v7 = .int .i64 x7_2 ∧ Aside0 (spec_Unscanned.l0 kq a0 l1 x6_2 x7_2 = some (r1, r2)) ∧ Aside0 (kq ≤ kj2) ∧ Aside0 (Kd.R (Kd.int .i64) 3 w' w.heap.size (fun _ => True) v157 x6_2) ∧ Aside0 (Below w.heap.size w w'))
      case atStart => exact ⟨(y156), (0), rv, H', ⟨Nat.le_refl _⟩, (ra HO158.out), bh HB⟩
      case round =>
       clear H'
       obtain ⟨x6_2, x7_2, rfl, HA, HK2, HO_6, HB⟩ := hrel
       cases gk with
       | zero => exact absurd HA.out (by simp [spec_Unscanned.l0])
       | succ k2 =>
        have H := HA.out
        clear HA
        simp only [spec_Unscanned.l0] at H
        by_cases c13 : x7_2 < (wrap64 (a0 * a0))
        ·rw [if_pos c13] at H
         have c13b0 := decide_eq_true c13
         clear c13
         replace H := bnd H
         obtain ⟨t159, A14, H⟩ := H
         by_cases c15 : 0 ≤ x7_2
         ·rw [if_pos c15] at H
          have c15b0 := decide_eq_true c15
          clear c15
          by_cases c16 : x7_2 < (l1.length : Int)
          ·rw [if_pos c16] at H
           have c16b0 := decide_eq_true c16
           clear c16
           by_cases c17 : 0 ≤ t159
           ·rw [if_pos c17] at H
            have c17b0 := decide_eq_true c17
            clear c17
            by_cases c18 : t159 < (x6_2.length : Int)
            ·rw [if_pos c18] at H
             have c18b0 := decide_eq_true c18
             clear c18
             obtain ⟨y161, hy161⟩ : ∃ y_ : List Int, y_ = (x6_2.set (t159 : Int).toNat (rd l1 x7_2)) := ⟨_, rfl⟩
             replace H : (spec_Unscanned.l0 k2 a0 l1 y161 (wrap64 (x7_2 + 1))) = some (r1, r2) := by subst hy161; exact H
             have Ny161 := Aside0.mk hy161
             clear hy161
             have H' := Aside0.mk H
             clear H
             try go_wp2
             replace HO_6 := Aside0.mk (Kd.R_drew HO_6.out)
             replace HB := Aside0.mk (below_drew1 HB.out)
             have p160 : 0 ≤ (x7_2 : Int) := od
             have q160 : x7_2 < (l1.length : Int) := od
             obtain ⟨ad160, e160, hx160_0⟩ := Kd.at_int HR1.out x7_2 p160 q160
             have hw160_0 := hx160_0
             cases e160
             replace hx160_0 := (HB.out.cell (World.block_lt_of_cell? w _ hx160_0)).trans hx160_0
             replace p160 := eq_true p160
             replace q160 := eq_true q160
             refine start_ (n := 10) (S := fun w' => w'.cell? (ad160.add (x7_2).toNat) = some (.int .i64 (rd l1 x7_2))) (ds := [9]) (ba 10 0) (by kernel_rfl) rfl rfl ((hcl HB hw160_0)) (fun hHeld => ?_); refine with_tabW spec_Unscanned.tab7 spec_Unscanned.bits7 (fun HT_ HW_ => ?_)
             generalize wr.drew = w20 at HO_6 HB hx160_0 hHeld ⊢
             refine pu 0 33 (ba 10 1) ?_
             refine pu 1 34 (ba 10 3) ?_
             refine pu 2 35 (ba 10 7) ?_
             refine pu 4 37 (ba 10 23) ?_
             refine pu 5 38 (ba 10 55) ?_
             refine pu 6 39 (ba 10 119) ?_
             refine take_ (i := 7) (N := some 40) (v := ?_) (a' := ?_) (ba 10 247) rfl rfl (take_ofW HT_.out HW_.out (by kernel_rfl)) (fun _ _ _ h => h) (Or.inl ⟨by rfl, ?_⟩) hHeld ?_ ?_
             rotate_left
             ·intro w' s0
              go_simp
              with_reducible rfl
             rotate_left
             ·simp only [Act.put, List.setIfInBounds_toArray, List.set_cons_zero, List.set_cons_succ, i64_w, i32_w]
              rfl
             refine on 3 36 (ba 10 255) (fun K hK => ?_)
             refine gS Try.func140 #[.int .i64 a0, .int .i64 x7_2] ?_
             with_reducible refine (spec_ScanAt.calls k2 a0 x7_2 t159 _ A14.out).mono ?_
             rintro e w' ⟨rfl, ⟨nd, rfl⟩⟩
             refine ⟨_, rfl, ?_⟩
             have p19 : 0 ≤ (t159 : Int) := od
             have q19 : (t159 : Int) < ((x6_2.length : Int) : Int) := od
             obtain ⟨go19, co19, eo19, gb19, gl19, cl19, HG19⟩ := Kd.R_form HO_6.out (by omega)
             (first | cases eo19 | (injection eo19 with ea_ en_ ec_; (first | subst ea_ | (injection ea_ with ea_; subst ea_)); subst ec_; clear en_))
             have GB19 := Aside0.mk gb19
             have GG19 := Aside0.mk HG19
             clear gb19 gl19 HG19
             obtain ⟨hx19_0, hf19_0⟩ := Kd.R_celln 0 HO_6.out (t159 : Int) p19 q19
             replace p19 := eq_true p19
             replace q19 := eq_true q19
             have HP21 := Kd.R_putn HO_6.out (t159 : Int) (rd l1 x7_2)
             rw [← Ny161.out] at HP21
             have HQ21 := Aside0.mk HP21
             clear HP21
             refine hK.out _ _ ((hcl HB hw160_0)) (fun hHeld => ?_)
             clear hK K
             refine nm ?_
             refine pu 8 41 (ba 10 511) ?_
             refine last_ (i := 9) (N := none) (ba 10 1023) rfl rfl (one_of HT_.out (by kernel_rfl)) (by decide) (fun K hK => ?_)
             refine skip_ (w1 := ?_) (by rfl) rfl ?_ ?_
             rotate_left
             ·go_simp
              rfl
             refine hK.out _ _ ?_
             clear hK K
             refine done_ (done_of HT_.out (by kernel_rfl)) ?_
             try go_wp2
             go_roundg k2
             case measure => have := HJ2.out; have := HK2.out; omega
             case rel => exact ⟨(y161), (wrap64 (x7_2 + 1)), rv, H', ⟨by have := HJ2.out; have := HK2.out; omega⟩, (ra HQ21.out), bh HB⟩
            ·rw [if_neg c18] at H
             exact absurd H (by simp)
           ·rw [if_neg c17] at H
            exact absurd H (by simp)
          ·rw [if_neg c16] at H
           exact absurd H (by simp)
         ·rw [if_neg c15] at H
          exact absurd H (by simp)
        ·rw [if_neg c13] at H
         have c13b0 := decide_eq_false c13
         clear c13
         simp only [Option.some.injEq, Prod.mk.injEq] at H
         obtain ⟨rfl, rfl⟩ := H
         go_wp2
         go_ret2
         exact ⟨_, re, ro HO_6.out, bo HB⟩
     ·rw [if_neg c10] at H
      exact absurd H (by simp)
    ·rw [if_neg c9] at H
     exact absurd H (by simp)

end Go.Proofs.Ytnaccgommclhaaa.QFnExactSquareDots
