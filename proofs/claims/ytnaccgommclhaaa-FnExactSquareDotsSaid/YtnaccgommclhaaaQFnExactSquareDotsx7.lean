/- What the law reaches, as plain functions, each with the proof that its call comes to its answer: written by a program for this claim. -/
import Derived.Test.YtnaccgommclhaaaQFnExactSquareDotsx0
import Derived.Test.YtnaccgommclhaaaQFnExactSquareDotsx1
import Derived.Test.YtnaccgommclhaaaQFnExactSquareDotsx6
import Derived.Test.YtnaccgommclhaaaUFnExactSquareDotsV5
namespace Go.Proofs.Ytnaccgommclhaaa.QFnExactSquareDots
open Go.RowKit Go.Proofs.YtnaccgommclhaaaW.PrintWords Go.Proofs.YtnaccgommclhaaaW.PrintLast Go.Proofs.YtnaccgommclhaaaW.PrintMore Go.Proofs.YtnaccgommclhaaaV
attribute [local go_sem] max2_int min2_int max_two min_two max_three min_three max_four min_four   -- for this text's walks alone
set_option linter.unusedVariables false
set_option linter.unusedSimpArgs false
set_option maxHeartbeats 8000000
set_option maxRecDepth 100000

def spec_l08Pick.f (a0 : Int) (a1 : Int) (a2 : Int) (a3 : Int) : Option (Int) := if a0 = 0 then (some a1) else (if a0 = 1 then (some a2) else (some a3))
theorem spec_l08Pick.calls (a0 : Int) (a1 : Int) (a2 : Int) (a3 : Int) (r : Int) (w : World) (h : spec_l08Pick.f a0 a1 a2 a3 = some r) :
  Calls Try.prog 164 #[.int .i64 a0, .int .i64 a1, .int .i64 a2, .int .i64 a3] w fun e w' => e = .returned (.int .i64 r) ∧ Drawn0 w w' := by
 have H := h
 clear h
 unfold spec_l08Pick.f at H
 by_cases c5 : a0 = 0
 ·rw [if_pos c5] at H
  obtain ⟨c5b0, c5b1⟩ := eqt c5
  clear c5
  obtain rfl := Option.some.inj H
  go_enter Try.func164, Try.ntmps164
  go_wp2
  go_ret
  exact ⟨rv, dr⟩
 ·rw [if_neg c5] at H
  obtain ⟨c5b0, c5b1⟩ := eqf c5
  by_cases c6 : a0 = 1
  ·rw [if_pos c6] at H
   obtain ⟨c6b0, c6b1⟩ := eqt c6
   clear c6
   obtain rfl := Option.some.inj H
   go_enter Try.func164, Try.ntmps164
   go_wp2
   go_ret
   exact ⟨rv, dr⟩
  ·rw [if_neg c6] at H
   obtain ⟨c6b0, c6b1⟩ := eqf c6
   obtain rfl := Option.some.inj H
   go_enter Try.func164, Try.ntmps164
   go_wp2
   go_ret
   exact ⟨rv, dr⟩

mutual
def spec_ScaleOf.j0 : Nat → Int → Int → Bool → Option (Int)
 | 0, _, _, _ => none
 | k + 1, x0, x5, x16 => if x16 = true then (some 0) else (if (Int.tmod x0 6) = 0 then ((spec_l08Pick.f x5 10 16 13).bind fun t197 => (spec_ScaleOf.j1 k x0 t197)) else (if (Int.tmod x0 6) = 1 then ((spec_l08Pick.f x5 11 18 14).bind fun t198 => (spec_ScaleOf.j1 k x0 t198)) else (if (Int.tmod x0 6) = 2 then ((spec_l08Pick.f x5 13 20 16).bind fun t199 => (spec_ScaleOf.j1 k x0 t199)) else (if (Int.tmod x0 6) = 3 then ((spec_l08Pick.f x5 14 23 18).bind fun t200 => (spec_ScaleOf.j1 k x0 t200)) else (if (Int.tmod x0 6) = 4 then ((spec_l08Pick.f x5 16 25 20).bind fun t201 => (spec_ScaleOf.j1 k x0 t201)) else (if (Int.tmod x0 6) = 5 then ((spec_l08Pick.f x5 18 29 23).bind fun t202 => (spec_ScaleOf.j1 k x0 t202)) else (spec_ScaleOf.j1 k x0 0)))))))
def spec_ScaleOf.j1 : Nat → Int → Int → Option (Int)
 | 0, _, _ => none
 | k + 1, x0, x6 => spec_ScaleOf.l0 k x0 x6 0
def spec_ScaleOf.l0 : Nat → Int → Int → Int → Option (Int)
 | 0, _, _, _ => none
 | k + 1, x0, x6, x7 => if x7 < (wrap64 (Int.tdiv x0 6)) then (spec_ScaleOf.l0 k x0 (wrap64 (2 * x6)) (wrap64 (x7 + 1))) else (some x6)
end
def spec_ScaleOf.f (k : Nat) (a0 : Int) (a1 : Int) : Option (Int) := (spec_KindOf.f k a1).bind fun t195 => ((spec_l01In.f a0 0 40).bind fun t196 => (if t196 = true then (spec_ScaleOf.j0 k a0 t195 (decide (t195 < 0))) else (spec_ScaleOf.j0 k a0 t195 true)))
theorem spec_ScaleOf.calls (k : Nat) (a0 : Int) (a1 : Int) (r : Int) (w : World) (h : spec_ScaleOf.f k a0 a1 = some r) :
  Calls Try.prog 144 #[.int .i64 a0, .int .i64 a1] w fun e w' => e = .returned (.int .i64 r) ∧ Drawn0 w w' := by
 have H := h
 clear h
 unfold spec_ScaleOf.f at H
 replace H := bnd H
 obtain ⟨t195, A3, H⟩ := H
 have HC4 := Aside0.mk H
 clear H
 go_enter Try.func144, Try.ntmps144
 go_upto_region 2 with (first | ((with_reducible refine gate_callee (f := 163) rfl ?_); refine gD (some 9) Try.func163 #[.int .i64 a1] (spec_KindOf.calls k a1 t195 _ A3.out) ?_; intro nd))
 (try simp only [Act.put, List.setIfInBounds_toArray, List.set_cons_zero, List.set_cons_succ])
 go_cut [16] (fun v16 wc => ∃ (kq : Nat) (x16_3 : Bool), v16 = .bool x16_3 ∧ Aside0 (spec_ScaleOf.j0 kq a0 t195 x16_3 = some r) ∧ Aside0 (kq ≤ k) ∧ Drawn0 w wc)
 case first =>
  have H := HC4.out
  clear HC4
  replace H := bnd H
  obtain ⟨t196, A5, H⟩ := H
  by_cases c6 : t196 = true
  ·subst c6
   rw [if_pos rfl] at H
   have H' := Aside0.mk H
   clear H
   go_wp2_with (first | ((with_reducible refine gate_callee (f := 58) rfl ?_); refine gD (some 11) Try.func58 #[.int .i64 a0, .int .i64 0, .int .i64 40] (spec_l01In.calls a0 0 40 true _ A5.out) ?_; intro nd))
   go_meet
   case rel => exact ⟨_, (decide (t195 < 0)), rv, H', om, dr⟩
  ·replace c6 := Bool.eq_false_iff.mpr c6
   subst c6
   rw [if_neg nft] at H
   have H' := Aside0.mk H
   clear H
   go_wp2_with (first | ((with_reducible refine gate_callee (f := 58) rfl ?_); refine gD (some 11) Try.func58 #[.int .i64 a0, .int .i64 0, .int .i64 40] (spec_l01In.calls a0 0 40 false _ A5.out) ?_; intro nd))
   go_meet
   case rel => exact ⟨_, (true), rv, H', om, dr⟩
 case rest =>
  clear HC4
  obtain ⟨kq, x16_3, rfl, HA, HJ3, ⟨mc3, rfl⟩⟩ := hcut
  cases kq with
  | zero => exact absurd HA.out (by simp [spec_ScaleOf.j0])
  | succ kj3 =>
   have H := HA.out
   clear HA
   simp only [spec_ScaleOf.j0] at H
   by_cases c7 : x16_3 = true
   ·subst c7
    rw [if_pos rfl] at H
    obtain rfl := Option.some.inj H
    go_wp2
    go_ret
    exact ⟨rv, dr⟩
   ·replace c7 := Bool.eq_false_iff.mpr c7
    subst c7
    rw [if_neg nft] at H
    have HC8 := Aside0.mk H
    clear H
    go_upto_block 0 with (fail)
    go_cut [6] (fun v6 wc => ∃ (kq : Nat) (x6_7 : Int), v6 = .int .i64 x6_7 ∧ Aside0 (spec_ScaleOf.j1 kq a0 x6_7 = some r) ∧ Aside0 (kq ≤ kj3) ∧ Drawn0 w wc)
    case first =>
     have H := HC8.out
     clear HC8
     by_cases c9 : (Int.tmod a0 6) = 0
     ·rw [if_pos c9] at H
      obtain ⟨c9b0, c9b1⟩ := eqt c9
      clear c9
      (first | rw [c9b0] | (simp only [i64_w, i32_w]; rw [c9b0]) | skip)
      replace H := bnd H
      obtain ⟨t197, A10, H⟩ := H
      have H' := Aside0.mk H
      clear H
      go_wp2_with (first | ((with_reducible refine gate_callee (f := 164) rfl ?_); refine gD (some 22) Try.func164 #[.int .i64 t195, .int .i64 10, .int .i64 16, .int .i64 13] (spec_l08Pick.calls t195 10 16 13 t197 _ A10.out) ?_; intro nd))
      go_meet
      case rel => exact ⟨_, (t197), rv, H', (om1 HJ3.out), dr⟩
     ·rw [if_neg c9] at H
      obtain ⟨c9b0, c9b1⟩ := eqf c9
      (first | rw [c9b0] | (simp only [i64_w, i32_w]; rw [c9b0]) | skip)
      by_cases c11 : (Int.tmod a0 6) = 1
      ·rw [if_pos c11] at H
       obtain ⟨c11b0, c11b1⟩ := eqt c11
       clear c11
       replace H := bnd H
       obtain ⟨t198, A12, H⟩ := H
       have H' := Aside0.mk H
       clear H
       go_wp2_with (first | ((with_reducible refine gate_callee (f := 164) rfl ?_); refine gD (some 26) Try.func164 #[.int .i64 t195, .int .i64 11, .int .i64 18, .int .i64 14] (spec_l08Pick.calls t195 11 18 14 t198 _ A12.out) ?_; intro nd))
       go_meet
       case rel => exact ⟨_, (t198), rv, H', (om1 HJ3.out), dr⟩
      ·rw [if_neg c11] at H
       obtain ⟨c11b0, c11b1⟩ := eqf c11
       by_cases c13 : (Int.tmod a0 6) = 2
       ·rw [if_pos c13] at H
        obtain ⟨c13b0, c13b1⟩ := eqt c13
        clear c13
        replace H := bnd H
        obtain ⟨t199, A14, H⟩ := H
        have H' := Aside0.mk H
        clear H
        go_wp2_with (first | ((with_reducible refine gate_callee (f := 164) rfl ?_); refine gD (some 30) Try.func164 #[.int .i64 t195, .int .i64 13, .int .i64 20, .int .i64 16] (spec_l08Pick.calls t195 13 20 16 t199 _ A14.out) ?_; intro nd))
        go_meet
        case rel => exact ⟨_, (t199), rv, H', (om1 HJ3.out), dr⟩
       ·rw [if_neg c13] at H
        obtain ⟨c13b0, c13b1⟩ := eqf c13
        by_cases c15 : (Int.tmod a0 6) = 3
        ·rw [if_pos c15] at H
         obtain ⟨c15b0, c15b1⟩ := eqt c15
         clear c15
         replace H := bnd H
         obtain ⟨t200, A16, H⟩ := H
         have H' := Aside0.mk H
         clear H
         go_wp2_with (first | ((with_reducible refine gate_callee (f := 164) rfl ?_); refine gD (some 34) Try.func164 #[.int .i64 t195, .int .i64 14, .int .i64 23, .int .i64 18] (spec_l08Pick.calls t195 14 23 18 t200 _ A16.out) ?_; intro nd))
         go_meet
         case rel => exact ⟨_, (t200), rv, H', (om1 HJ3.out), dr⟩
        ·rw [if_neg c15] at H
         obtain ⟨c15b0, c15b1⟩ := eqf c15
         by_cases c17 : (Int.tmod a0 6) = 4
         ·rw [if_pos c17] at H
          obtain ⟨c17b0, c17b1⟩ := eqt c17
          clear c17
          replace H := bnd H
          obtain ⟨t201, A18, H⟩ := H
          have H' := Aside0.mk H
          clear H
          go_wp2_with (first | ((with_reducible refine gate_callee (f := 164) rfl ?_); refine gD (some 38) Try.func164 #[.int .i64 t195, .int .i64 16, .int .i64 25, .int .i64 20] (spec_l08Pick.calls t195 16 25 20 t201 _ A18.out) ?_; intro nd))
          go_meet
          case rel => exact ⟨_, (t201), rv, H', (om1 HJ3.out), dr⟩
         ·rw [if_neg c17] at H
          obtain ⟨c17b0, c17b1⟩ := eqf c17
          by_cases c19 : (Int.tmod a0 6) = 5
          ·rw [if_pos c19] at H
           obtain ⟨c19b0, c19b1⟩ := eqt c19
           clear c19
           replace H := bnd H
           obtain ⟨t202, A20, H⟩ := H
           have H' := Aside0.mk H
           clear H
           go_wp2_with (first | ((with_reducible refine gate_callee (f := 164) rfl ?_); refine gD (some 42) Try.func164 #[.int .i64 t195, .int .i64 18, .int .i64 29, .int .i64 23] (spec_l08Pick.calls t195 18 29 23 t202 _ A20.out) ?_; intro nd))
           go_meet
           case rel => exact ⟨_, (t202), rv, H', (om1 HJ3.out), dr⟩
          ·rw [if_neg c19] at H
           obtain ⟨c19b0, c19b1⟩ := eqf c19
           have H' := Aside0.mk H
           clear H
           go_wp2
           go_meet
           case rel => exact ⟨_, (0), rv, H', (om1 HJ3.out), dr⟩
    case rest =>
     clear HC8
     obtain ⟨kq, x6_7, rfl, HA, HJ7, ⟨mc7, rfl⟩⟩ := hcut
     cases kq with
     | zero => exact absurd HA.out (by simp [spec_ScaleOf.j1])
     | succ kj7 =>
      have H := HA.out
      clear HA
      simp only [spec_ScaleOf.j1] at H
      have H' := Aside0.mk H
      clear H
      go_wp2
      go_loopg [6, 7] kj7 (fun kq v6 v7 w' => ∃ (x6_3 : Int) (x7_3 : Int), v6 = .int .i64 x6_3 ∧ v7 = .int .i64 x7_3 ∧ Aside0 (spec_ScaleOf.l0 kq a0 x6_3 x7_3 = some r) ∧ Aside0 (kq ≤ kj7) ∧ Drawn0 w w')
      case atStart => exact ⟨(x6_7), (0), rv, rv, H', ⟨Nat.le_refl _⟩, dr⟩
      case round =>
       clear H'
       obtain ⟨x6_3, x7_3, rfl, rfl, HA, HK3, ⟨m3, rfl⟩⟩ := hrel
       cases gk with
       | zero => exact absurd HA.out (by simp [spec_ScaleOf.l0])
       | succ k3 =>
        have H := HA.out
        clear HA
        simp only [spec_ScaleOf.l0] at H
        by_cases c21 : x7_3 < (wrap64 (Int.tdiv a0 6))
        ·rw [if_pos c21] at H
         have c21b0 := decide_eq_true c21
         clear c21
         have H' := Aside0.mk H
         clear H
         go_wp2
         go_roundg k3
         case measure => have := HJ3.out; have := HJ7.out; have := HK3.out; omega
         case rel => exact ⟨(wrap64 (2 * x6_3)), (wrap64 (x7_3 + 1)), rv, rv, H', ⟨by have := HJ3.out; have := HJ7.out; have := HK3.out; omega⟩, dr⟩
        ·rw [if_neg c21] at H
         have c21b0 := decide_eq_false c21
         clear c21
         obtain rfl := Option.some.inj H
         go_wp2
         go_ret
         exact ⟨rv, dr⟩

def spec_SmallBack.f (k : Nat) (a0 : Int) (a1 : Int) (a2 : Int) : Option (Int) := (spec_l01In.f a0 (-5000) 5000).bind fun t203 => (if t203 = true then ((spec_ScaleOf.f k a1 a2).bind fun t204 => (some (wrap64 (a0 * t204)))) else (some 0))
theorem spec_SmallBack.calls (k : Nat) (a0 : Int) (a1 : Int) (a2 : Int) (r : Int) (w : World) (h : spec_SmallBack.f k a0 a1 a2 = some r) :
  Calls Try.prog 105 #[.int .i64 a0, .int .i64 a1, .int .i64 a2] w fun e w' => e = .returned (.int .i64 r) ∧ Drawn0 w w' := by
 have H := h
 clear h
 unfold spec_SmallBack.f at H
 replace H := bnd H
 obtain ⟨t203, A4, H⟩ := H
 by_cases c5 : t203 = true
 ·subst c5
  rw [if_pos rfl] at H
  replace H := bnd H
  obtain ⟨t204, A6, H⟩ := H
  obtain rfl := Option.some.inj H
  go_enter Try.func105, Try.ntmps105
  go_wp2_with (first | ((with_reducible refine gate_callee (f := 58) rfl ?_); refine gD (some 8) Try.func58 #[.int .i64 a0, .int .i64 (-5000), .int .i64 5000] (spec_l01In.calls a0 (-5000) 5000 true _ A4.out) ?_; intro nd) | ((with_reducible refine gate_callee (f := 144) rfl ?_); refine gD (some 13) Try.func144 #[.int .i64 a1, .int .i64 a2] (spec_ScaleOf.calls k a1 a2 t204 _ A6.out) ?_; intro nd))
  go_ret
  exact ⟨rv, dr⟩
 ·replace c5 := Bool.eq_false_iff.mpr c5
  subst c5
  rw [if_neg nft] at H
  obtain rfl := Option.some.inj H
  go_enter Try.func105, Try.ntmps105
  go_wp2_with (first | ((with_reducible refine gate_callee (f := 58) rfl ?_); refine gD (some 8) Try.func58 #[.int .i64 a0, .int .i64 (-5000), .int .i64 5000] (spec_l01In.calls a0 (-5000) 5000 false _ A4.out) ?_; intro nd))
  go_ret
  exact ⟨rv, dr⟩

def spec_l09Flip.l0 : Nat → List Int → List Int → Int → Option (List Int)
 | 0, _, _, _ => none
 | k + 1, x0, x3, x4 => if x4 < 16 then (if 0 ≤ x4 then (if x4 < (x0.length : Int) then (if 0 ≤ (wrap64 ((wrap64 ((Int.tmod x4 4) * 4)) + (wrap64 (Int.tdiv x4 4)))) then (if (wrap64 ((wrap64 ((Int.tmod x4 4) * 4)) + (wrap64 (Int.tdiv x4 4)))) < (x3.length : Int) then (spec_l09Flip.l0 k x0 (x3.set ((wrap64 ((wrap64 ((Int.tmod x4 4) * 4)) + (wrap64 (Int.tdiv x4 4)))) : Int).toNat (rd x0 x4)) (wrap64 (x4 + 1))) else (none)) else (none)) else (none)) else (none)) else (some x3)
def spec_l09Flip.f (k : Nat) (l0 : List Int) : Option (List Int) := if 16 ≤ 35184372088832 then (spec_l09Flip.l0 k l0 (List.replicate 16 0) 0) else (none)
theorem spec_l09Flip.calls (k : Nat) (A0 : Option Addr) (c0 : Nat) (l0 : List Int) (r : List Int) (w : World) (hr0 : Kd.C (Kd.int .i64) w A0 l0.length l0) (hc0 : l0.length ≤ c0) (h : spec_l09Flip.f k l0 = some r) :
  Calls Try.prog 145 #[.slice A0 l0.length c0] w fun e w' => ∃ v0_ : Value, e = .returned (v0_) ∧ Kd.R (Kd.int .i64) 3 w' w.heap.size (fun _ => True) v0_ r ∧ Below w.heap.size w w' := by
 have HR0 := Aside0.mk hr0
 have HC0 := Aside0.mk hc0
 clear hr0 hc0
 have HB := Aside0.mk (Below.refl w.heap.size w)
 have H := h
 clear h
 unfold spec_l09Flip.f at H
 by_cases c2 : 16 ≤ 35184372088832
 ·rw [if_pos c2] at H
  have c2b0 := eq_true c2
  have c2b1 := decide_eq_true c2
  clear c2
  obtain ⟨y205, hy205⟩ : ∃ y_ : List Int, y_ = (List.replicate 16 0) := ⟨_, rfl⟩
  replace H : (spec_l09Flip.l0 k l0 y205 0) = some r := by subst hy205; exact H
  have Ny205 := Aside0.mk hy205
  clear hy205
  have H' := Aside0.mk H
  clear H
  go_enter Try.func145, Try.ntmps145
  go_wp2_with (first | ((with_reducible refine gate_dst (N := 5) rfl ?_); refine Kd.R_make (Kd.int .i64) _ 3 rfl (N := 5) rfl 35 _ _ rfl 16 rfl rfl Try.underlying35 (.int .i64 0) 8 info3 rfl (by decide) (by omega) 0 (ok := fun _ => True) (okp := fun _ => True) rfl (fun _ hk => hk) trivial (by omega) (by omega) (Below.refl _ _) (Nat.le_refl _) ?_; intro v206 w3 ho4 hb hg_ hnew_; clear hg_ hnew_; (first | rw [← Ny205.out] at ho4 | (simp only [Int.reduceToNat] at ho4; rw [← Ny205.out] at ho4)); have HO207 := Aside0.mk (Kd.R_lower ho4 (below_size (bo HB))); replace HB := bs HB hb; clear hb ho4))
  go_loopg [4] k (fun kq v4 w' => ∃ (x3_1 : List Int) (x4_1 : Int), v4 = .int .i64 x4_1 ∧ Aside0 (spec_l09Flip.l0 kq l0 x3_1 x4_1 = some r) ∧ Aside0 (kq ≤ k) ∧ Aside0 (Kd.R (Kd.int .i64) 3 w' w.heap.size (fun _ => True) v206 x3_1) ∧ Aside0 (Below w.heap.size w w'))
  case atStart => exact ⟨(y205), (0), rv, H', ⟨Nat.le_refl _⟩, (ra HO207.out), bh HB⟩
  case round =>
   clear H'
   obtain ⟨x3_1, x4_1, rfl, HA, HK1, HO_3, HB⟩ := hrel
   cases gk with
   | zero => exact absurd HA.out (by simp [spec_l09Flip.l0])
   | succ k1 =>
    have H := HA.out
    clear HA
    simp only [spec_l09Flip.l0] at H
    by_cases c5 : x4_1 < 16
    ·rw [if_pos c5] at H
     have c5b0 := decide_eq_true c5
     clear c5
     by_cases c6 : 0 ≤ x4_1
     ·rw [if_pos c6] at H
      have c6b0 := decide_eq_true c6
      clear c6
      by_cases c7 : x4_1 < (l0.length : Int)
      ·rw [if_pos c7] at H
       have c7b0 := decide_eq_true c7
       clear c7
       obtain ⟨ji8, hji8⟩ : ∃ j_ : Int, (wrap64 ((wrap64 ((Int.tmod x4_1 4) * 4)) + (wrap64 (Int.tdiv x4_1 4)))) = j_ := ⟨_, rfl⟩
       replace H : (if 0 ≤ (ji8) then (if (ji8) < (x3_1.length : Int) then (spec_l09Flip.l0 k1 l0 (x3_1.set ((ji8) : Int).toNat (rd l0 x4_1)) (wrap64 (x4_1 + 1))) else (none)) else (none)) = some r := by first | (rw [hji8] at H; exact H) | (simp only [hji8] at H ⊢; exact H)
       have hji8w : (IntKind.i64.wrap ((wrap64 ((Int.tmod x4_1 4) * 4)) + (wrap64 (Int.tdiv x4_1 4)))) = ji8 := (i64_w _).trans hji8
       by_cases c9 : 0 ≤ (ji8)
       ·rw [if_pos c9] at H
        have c9b0 := decide_eq_true c9
        clear c9
        by_cases c10 : (ji8) < (x3_1.length : Int)
        ·rw [if_pos c10] at H
         have c10b0 := decide_eq_true c10
         clear c10
         obtain ⟨y209, hy209⟩ : ∃ y_ : List Int, y_ = (x3_1.set ((ji8) : Int).toNat (rd l0 x4_1)) := ⟨_, rfl⟩
         replace H : (spec_l09Flip.l0 k1 l0 y209 (wrap64 (x4_1 + 1))) = some r := by subst hy209; exact H
         have Ny209 := Aside0.mk hy209
         clear hy209
         have H' := Aside0.mk H
         clear H
         have p208 : 0 ≤ (x4_1 : Int) := od
         have q208 : x4_1 < (l0.length : Int) := od
         obtain ⟨ad208, e208, hx208_0⟩ := Kd.at_int HR0.out x4_1 p208 q208
         cases e208
         replace hx208_0 := (HB.out.cell (World.block_lt_of_cell? w _ hx208_0)).trans hx208_0
         replace p208 := eq_true p208
         replace q208 := eq_true q208
         have p11 : 0 ≤ ((ji8) : Int) := od
         have q11 : ((ji8) : Int) < ((x3_1.length : Int) : Int) := od
         obtain ⟨go11, co11, eo11, gb11, gl11, cl11, HG11⟩ := Kd.R_form HO_3.out (by omega)
         (first | cases eo11 | (injection eo11 with ea_ en_ ec_; (first | subst ea_ | (injection ea_ with ea_; subst ea_)); subst ec_; clear en_))
         have GB11 := Aside0.mk gb11
         have GG11 := Aside0.mk HG11
         clear gb11 gl11 HG11
         obtain ⟨hx11_0, hf11_0⟩ := Kd.R_celln 0 HO_3.out ((ji8) : Int) p11 q11
         replace p11 := eq_true p11
         replace q11 := eq_true q11
         have HP12 := Kd.R_putg HO_3.out ((ji8) : Int) (rd l0 x4_1)
         go_wp2_with (first | ((with_reducible refine gate_store (t := 3) (p := 21) rfl ?_); refine store_event (t := 3) (p := 21) (v := ?vo_w13) (w1 := (wr.setCell ⟨go11, ((ji8) : Int).toNat, none⟩ (.int .i64 (rd l0 x4_1)))) ?hg ?ho ?hn ?hr ?_; (case ho => rfl); (case hg => rfl); (case hn => rfl); (case hr => first | (go_simp; done) | (go_simp; rfl)); intro w13 hw; have hg : wr.grownBy w13 (some go11) := (by rw [hw]; exact HP12.2); have hp_ : Kd.R (Kd.int .i64) 3 w13 w.heap.size (fun _ => True) (.slice (some ⟨go11, 0, none⟩) x3_1.length co11) y209 := (by rw [hw, Ny209.out]; exact HP12.1); clear HP12; replace HO_3 := Aside0.mk (hp_); replace HB := Aside0.mk ((by rw [hw]; exact below_set (HB.out) GB11.out : Below w.heap.size w w13)); clear hg hw hp_))
         go_roundg k1
         case measure => have := HK1.out; omega
         case rel => exact ⟨(y209), (wrap64 (x4_1 + 1)), rv, H', ⟨by have := HK1.out; omega⟩, (ra HO_3.out), bh HB⟩
        ·rw [if_neg c10] at H
         exact absurd H (by simp)
       ·rw [if_neg c9] at H
        exact absurd H (by simp)
      ·rw [if_neg c7] at H
       exact absurd H (by simp)
     ·rw [if_neg c6] at H
      exact absurd H (by simp)
    ·rw [if_neg c5] at H
     have c5b0 := decide_eq_false c5
     clear c5
     obtain rfl := Option.some.inj H
     go_wp2
     go_ret
     exact ⟨_, re, ro HO_3.out, bo HB⟩
 ·rw [if_neg c2] at H
  exact absurd H (by simp)

def spec_l09Backs.l0 : Nat → List Int → List Int → Int → Option (List Int)
 | 0, _, _, _ => none
 | k + 1, x0, x3, x4 => if x4 < 4 then (if 0 ≤ (wrap64 (4 * x4)) then (if (wrap64 (4 * x4)) < (x0.length : Int) then (if 0 ≤ (wrap64 ((wrap64 (4 * x4)) + 1)) then (if (wrap64 ((wrap64 (4 * x4)) + 1)) < (x0.length : Int) then (if 0 ≤ (wrap64 ((wrap64 (4 * x4)) + 2)) then (if (wrap64 ((wrap64 (4 * x4)) + 2)) < (x0.length : Int) then (if 0 ≤ (wrap64 ((wrap64 (4 * x4)) + 3)) then (if (wrap64 ((wrap64 (4 * x4)) + 3)) < (x0.length : Int) then ((spec_l09Down.f (rd x0 (wrap64 ((wrap64 (4 * x4)) + 1))) 2).bind fun t217 => ((spec_l09Down.f (rd x0 (wrap64 ((wrap64 (4 * x4)) + 3))) 2).bind fun t218 => ((some (([wrap64 ((wrap64 ((rd x0 (wrap64 (4 * x4))) + (rd x0 (wrap64 ((wrap64 (4 * x4)) + 2))))) + (wrap64 ((rd x0 (wrap64 ((wrap64 (4 * x4)) + 1))) + t218))), wrap64 ((wrap64 ((rd x0 (wrap64 (4 * x4))) - (rd x0 (wrap64 ((wrap64 (4 * x4)) + 2))))) + (wrap64 (t217 - (rd x0 (wrap64 ((wrap64 (4 * x4)) + 3)))))), wrap64 ((wrap64 ((rd x0 (wrap64 (4 * x4))) - (rd x0 (wrap64 ((wrap64 (4 * x4)) + 2))))) - (wrap64 (t217 - (rd x0 (wrap64 ((wrap64 (4 * x4)) + 3)))))), wrap64 ((wrap64 ((rd x0 (wrap64 (4 * x4))) + (rd x0 (wrap64 ((wrap64 (4 * x4)) + 2))))) - (wrap64 ((rd x0 (wrap64 ((wrap64 (4 * x4)) + 1))) + t218)))] : List Int) : List Int)).bind fun y219 => (if x3.length + y219.length < 17592186044416 then (spec_l09Backs.l0 k x0 (x3 ++ y219) (wrap64 (x4 + 1))) else (none))))) else (none)) else (none)) else (none)) else (none)) else (none)) else (none)) else (none)) else (none)) else (some x3)
def spec_l09Backs.f (k : Nat) (l0 : List Int) : Option (List Int) := spec_l09Backs.l0 k l0 (([] : List Int)) 0
theorem spec_l09Backs.calls (k : Nat) (A0 : Option Addr) (c0 : Nat) (l0 : List Int) (r : List Int) (w : World) (hr0 : Kd.C (Kd.int .i64) w A0 l0.length l0) (hc0 : l0.length ≤ c0) (h : spec_l09Backs.f k l0 = some r) :
  Calls Try.prog 146 #[.slice A0 l0.length c0] w fun e w' => ∃ v0_ : Value, e = .returned (v0_) ∧ Kd.R (Kd.int .i64) 3 w' w.heap.size (fun _ => True) v0_ r ∧ Below w.heap.size w w' := by
 have HR0 := Aside0.mk hr0
 have HC0 := Aside0.mk hc0
 clear hr0 hc0
 have HB := Aside0.mk (Below.refl w.heap.size w)
 have H := h
 clear h
 unfold spec_l09Backs.f at H
 obtain ⟨y210, hy210⟩ : ∃ y_ : List Int, y_ = (([] : List Int)) := ⟨_, rfl⟩
 replace H : (spec_l09Backs.l0 k l0 y210 0) = some r := by subst hy210; exact H
 have Ny210 := Aside0.mk hy210
 clear hy210
 have H' := Aside0.mk H
 clear H
 go_enter Try.func146, Try.ntmps146
 go_wp2_with (first | ((with_reducible refine gate_dst (N := 13) rfl ?_); refine Kd.R_lit (Kd.int .i64) _ 3 ?hg (N := 13) ?hd (xs := ([] : List Int)) (inner := []) (ok := fun _ => True) (okp := fun _ => True) ?hr ?hp (fun _ hk => hk) trivial (Below.refl _ _) (Nat.le_refl _) (by simp) ?_; (case hd => rfl); (case hg => rfl); (case hr => first | (go_simp; done) | (go_simp; rfl)); (case hp => exact (Reps.none _ _)); intro v211 w2 ho3 hb hg_ hnew_; clear hg_ hnew_; (first | rw [← Ny210.out] at ho3 | (simp only [Int.reduceToNat] at ho3; rw [← Ny210.out] at ho3)); have HO212 := Aside0.mk (Kd.R_lower ho3 (below_size (bo HB))); replace HB := bs HB hb; clear hb ho3))
 go_loopg [3, 4] k (fun kq v3 v4 w' => ∃ (x3_1 : List Int) (x4_1 : Int), v4 = .int .i64 x4_1 ∧ Aside0 (spec_l09Backs.l0 kq l0 x3_1 x4_1 = some r) ∧ Aside0 (kq ≤ k) ∧ Aside0 (Kd.R (Kd.int .i64) 3 w' w.heap.size (fun _ => True) v3 x3_1) ∧ Aside0 (Below w.heap.size w w'))
 case atStart => exact ⟨(y210), (0), rv, H', ⟨Nat.le_refl _⟩, (ra HO212.out), bh HB⟩
 case round =>
  clear H'
  obtain ⟨x3_1, x4_1, rfl, HA, HK1, HO_3, HB⟩ := hrel
  cases gk with
  | zero => exact absurd HA.out (by simp [spec_l09Backs.l0])
  | succ k1 =>
   have H := HA.out
   clear HA
   simp only [spec_l09Backs.l0] at H
   by_cases c4 : x4_1 < 4
   ·rw [if_pos c4] at H
    have c4b0 := decide_eq_true c4
    clear c4
    obtain ⟨ji5, hji5⟩ : ∃ j_ : Int, (wrap64 (4 * x4_1)) = j_ := ⟨_, rfl⟩
    replace H : (if 0 ≤ (ji5) then (if (ji5) < (l0.length : Int) then (if 0 ≤ (wrap64 ((ji5) + 1)) then (if (wrap64 ((ji5) + 1)) < (l0.length : Int) then (if 0 ≤ (wrap64 ((ji5) + 2)) then (if (wrap64 ((ji5) + 2)) < (l0.length : Int) then (if 0 ≤ (wrap64 ((ji5) + 3)) then (if (wrap64 ((ji5) + 3)) < (l0.length : Int) then ((spec_l09Down.f (rd l0 (wrap64 ((ji5) + 1))) 2).bind fun t217 => ((spec_l09Down.f (rd l0 (wrap64 ((ji5) + 3))) 2).bind fun t218 => ((some (([wrap64 ((wrap64 ((rd l0 (ji5)) + (rd l0 (wrap64 ((ji5) + 2))))) + (wrap64 ((rd l0 (wrap64 ((ji5) + 1))) + t218))), wrap64 ((wrap64 ((rd l0 (ji5)) - (rd l0 (wrap64 ((ji5) + 2))))) + (wrap64 (t217 - (rd l0 (wrap64 ((ji5) + 3)))))), wrap64 ((wrap64 ((rd l0 (ji5)) - (rd l0 (wrap64 ((ji5) + 2))))) - (wrap64 (t217 - (rd l0 (wrap64 ((ji5) + 3)))))), wrap64 ((wrap64 ((rd l0 (ji5)) + (rd l0 (wrap64 ((ji5) + 2))))) - (wrap64 ((rd l0 (wrap64 ((ji5) + 1))) + t218)))] : List Int) : List Int)).bind fun y219 => (if x3_1.length + y219.length < 17592186044416 then (spec_l09Backs.l0 k1 l0 (x3_1 ++ y219) (wrap64 (x4_1 + 1))) else (none))))) else (none)) else (none)) else (none)) else (none)) else (none)) else (none)) else (none)) else (none)) = some r := by first | (rw [hji5] at H; exact H) | (simp only [hji5] at H ⊢; exact H)
    have hji5w : (IntKind.i64.wrap (4 * x4_1)) = ji5 := (i64_w _).trans hji5
    by_cases c6 : 0 ≤ (ji5)
    ·rw [if_pos c6] at H
     have c6b0 := decide_eq_true c6
     clear c6
     by_cases c7 : (ji5) < (l0.length : Int)
     ·rw [if_pos c7] at H
      have c7b0 := decide_eq_true c7
      clear c7
      obtain ⟨ji8, hji8⟩ : ∃ j_ : Int, (wrap64 ((ji5) + 1)) = j_ := ⟨_, rfl⟩
      replace H : (if 0 ≤ (ji8) then (if (ji8) < (l0.length : Int) then (if 0 ≤ (wrap64 ((ji5) + 2)) then (if (wrap64 ((ji5) + 2)) < (l0.length : Int) then (if 0 ≤ (wrap64 ((ji5) + 3)) then (if (wrap64 ((ji5) + 3)) < (l0.length : Int) then ((spec_l09Down.f (rd l0 (ji8)) 2).bind fun t217 => ((spec_l09Down.f (rd l0 (wrap64 ((ji5) + 3))) 2).bind fun t218 => ((some (([wrap64 ((wrap64 ((rd l0 (ji5)) + (rd l0 (wrap64 ((ji5) + 2))))) + (wrap64 ((rd l0 (ji8)) + t218))), wrap64 ((wrap64 ((rd l0 (ji5)) - (rd l0 (wrap64 ((ji5) + 2))))) + (wrap64 (t217 - (rd l0 (wrap64 ((ji5) + 3)))))), wrap64 ((wrap64 ((rd l0 (ji5)) - (rd l0 (wrap64 ((ji5) + 2))))) - (wrap64 (t217 - (rd l0 (wrap64 ((ji5) + 3)))))), wrap64 ((wrap64 ((rd l0 (ji5)) + (rd l0 (wrap64 ((ji5) + 2))))) - (wrap64 ((rd l0 (ji8)) + t218)))] : List Int) : List Int)).bind fun y219 => (if x3_1.length + y219.length < 17592186044416 then (spec_l09Backs.l0 k1 l0 (x3_1 ++ y219) (wrap64 (x4_1 + 1))) else (none))))) else (none)) else (none)) else (none)) else (none)) else (none)) else (none)) = some r := by first | (rw [hji8] at H; exact H) | (simp only [hji8] at H ⊢; exact H)
      have hji8w : (IntKind.i64.wrap ((ji5) + 1)) = ji8 := (i64_w _).trans hji8
      by_cases c9 : 0 ≤ (ji8)
      ·rw [if_pos c9] at H
       have c9b0 := decide_eq_true c9
       clear c9
       by_cases c10 : (ji8) < (l0.length : Int)
       ·rw [if_pos c10] at H
        have c10b0 := decide_eq_true c10
        clear c10
        obtain ⟨ji11, hji11⟩ : ∃ j_ : Int, (wrap64 ((ji5) + 2)) = j_ := ⟨_, rfl⟩
        replace H : (if 0 ≤ (ji11) then (if (ji11) < (l0.length : Int) then (if 0 ≤ (wrap64 ((ji5) + 3)) then (if (wrap64 ((ji5) + 3)) < (l0.length : Int) then ((spec_l09Down.f (rd l0 (ji8)) 2).bind fun t217 => ((spec_l09Down.f (rd l0 (wrap64 ((ji5) + 3))) 2).bind fun t218 => ((some (([wrap64 ((wrap64 ((rd l0 (ji5)) + (rd l0 (ji11)))) + (wrap64 ((rd l0 (ji8)) + t218))), wrap64 ((wrap64 ((rd l0 (ji5)) - (rd l0 (ji11)))) + (wrap64 (t217 - (rd l0 (wrap64 ((ji5) + 3)))))), wrap64 ((wrap64 ((rd l0 (ji5)) - (rd l0 (ji11)))) - (wrap64 (t217 - (rd l0 (wrap64 ((ji5) + 3)))))), wrap64 ((wrap64 ((rd l0 (ji5)) + (rd l0 (ji11)))) - (wrap64 ((rd l0 (ji8)) + t218)))] : List Int) : List Int)).bind fun y219 => (if x3_1.length + y219.length < 17592186044416 then (spec_l09Backs.l0 k1 l0 (x3_1 ++ y219) (wrap64 (x4_1 + 1))) else (none))))) else (none)) else (none)) else (none)) else (none)) = some r := by first | (rw [hji11] at H; exact H) | (simp only [hji11] at H ⊢; exact H)
        have hji11w : (IntKind.i64.wrap ((ji5) + 2)) = ji11 := (i64_w _).trans hji11
        by_cases c12 : 0 ≤ (ji11)
        ·rw [if_pos c12] at H
         have c12b0 := decide_eq_true c12
         clear c12
         by_cases c13 : (ji11) < (l0.length : Int)
         ·rw [if_pos c13] at H
          have c13b0 := decide_eq_true c13
          clear c13
          obtain ⟨ji14, hji14⟩ : ∃ j_ : Int, (wrap64 ((ji5) + 3)) = j_ := ⟨_, rfl⟩
          replace H : (if 0 ≤ (ji14) then (if (ji14) < (l0.length : Int) then ((spec_l09Down.f (rd l0 (ji8)) 2).bind fun t217 => ((spec_l09Down.f (rd l0 (ji14)) 2).bind fun t218 => ((some (([wrap64 ((wrap64 ((rd l0 (ji5)) + (rd l0 (ji11)))) + (wrap64 ((rd l0 (ji8)) + t218))), wrap64 ((wrap64 ((rd l0 (ji5)) - (rd l0 (ji11)))) + (wrap64 (t217 - (rd l0 (ji14))))), wrap64 ((wrap64 ((rd l0 (ji5)) - (rd l0 (ji11)))) - (wrap64 (t217 - (rd l0 (ji14))))), wrap64 ((wrap64 ((rd l0 (ji5)) + (rd l0 (ji11)))) - (wrap64 ((rd l0 (ji8)) + t218)))] : List Int) : List Int)).bind fun y219 => (if x3_1.length + y219.length < 17592186044416 then (spec_l09Backs.l0 k1 l0 (x3_1 ++ y219) (wrap64 (x4_1 + 1))) else (none))))) else (none)) else (none)) = some r := by first | (rw [hji14] at H; exact H) | (simp only [hji14] at H ⊢; exact H)
          have hji14w : (IntKind.i64.wrap ((ji5) + 3)) = ji14 := (i64_w _).trans hji14
          by_cases c15 : 0 ≤ (ji14)
          ·rw [if_pos c15] at H
           have c15b0 := decide_eq_true c15
           clear c15
           by_cases c16 : (ji14) < (l0.length : Int)
           ·rw [if_pos c16] at H
            have c16b0 := decide_eq_true c16
            clear c16
            replace H := bnd H
            obtain ⟨t217, A17, H⟩ := H
            replace H := bnd H
            obtain ⟨t218, A18, H⟩ := H
            replace H := yl H
            obtain ⟨y219, Ny219, H⟩ := H
            by_cases c19 : x3_1.length + y219.length < 17592186044416
            ·rw [if_pos c19] at H
             have LMc19 := Aside0.mk c19
             clear c19
             obtain ⟨y222, hy222⟩ : ∃ y_ : List Int, y_ = (x3_1 ++ y219) := ⟨_, rfl⟩
             replace H : (spec_l09Backs.l0 k1 l0 y222 (wrap64 (x4_1 + 1))) = some r := by subst hy222; exact H
             have Ny222 := Aside0.mk hy222
             clear hy222
             have H' := Aside0.mk H
             clear H
             have p213 : 0 ≤ ((ji5) : Int) := od
             have q213 : (ji5) < (l0.length : Int) := od
             obtain ⟨ad213, e213, hx213_0⟩ := Kd.at_int HR0.out (ji5) p213 q213
             cases e213
             replace hx213_0 := (HB.out.cell (World.block_lt_of_cell? w _ hx213_0)).trans hx213_0
             replace p213 := eq_true p213
             replace q213 := eq_true q213
             have p214 : 0 ≤ ((ji8) : Int) := od
             have q214 : (ji8) < (l0.length : Int) := od
             obtain ⟨ad214, e214, hx214_0⟩ := Kd.at_int HR0.out (ji8) p214 q214
             obtain rfl : ad213 = ad214 := (by injection e214)
             replace hx214_0 := (HB.out.cell (World.block_lt_of_cell? w _ hx214_0)).trans hx214_0
             replace p214 := eq_true p214
             replace q214 := eq_true q214
             have p215 : 0 ≤ ((ji11) : Int) := od
             have q215 : (ji11) < (l0.length : Int) := od
             obtain ⟨ad215, e215, hx215_0⟩ := Kd.at_int HR0.out (ji11) p215 q215
             obtain rfl : ad213 = ad215 := (by injection e215)
             replace hx215_0 := (HB.out.cell (World.block_lt_of_cell? w _ hx215_0)).trans hx215_0
             replace p215 := eq_true p215
             replace q215 := eq_true q215
             have p216 : 0 ≤ ((ji14) : Int) := od
             have q216 : (ji14) < (l0.length : Int) := od
             obtain ⟨ad216, e216, hx216_0⟩ := Kd.at_int HR0.out (ji14) p216 q216
             obtain rfl : ad213 = ad216 := (by injection e216)
             replace hx216_0 := (HB.out.cell (World.block_lt_of_cell? w _ hx216_0)).trans hx216_0
             replace p216 := eq_true p216
             replace q216 := eq_true q216
             go_wp2_with (first | ((with_reducible refine gate_callee (f := 143) rfl ?_); refine gD (some 48) Try.func143 #[.int .i64 (rd l0 (ji8)), .int .i64 2] (spec_l09Down.calls (rd l0 (ji8)) 2 t217 _ A17.out) ?_ (hargs := (by (try simp only [List.map_toArray, List.map_cons, List.map_nil]); first | done | (simp only [hji8]; rfl) | rfl | (simp only [List.length_drop, List.length_take]; rfl))); intro nd) | ((with_reducible refine gate_callee (f := 143) rfl ?_); refine gD (some 53) Try.func143 #[.int .i64 (rd l0 (ji14)), .int .i64 2] (spec_l09Down.calls (rd l0 (ji14)) 2 t218 _ A18.out) ?_ (hargs := (by (try simp only [List.map_toArray, List.map_cons, List.map_nil]); first | done | (simp only [hji14]; rfl) | rfl | (simp only [List.length_drop, List.length_take]; rfl))); intro nd) | ((with_reducible refine gate_dst (N := 68) rfl ?_); refine Kd.R_lit (Kd.int .i64) _ 3 ?hg (N := 68) ?hd (xs := ([wrap64 ((wrap64 ((rd l0 (ji5)) + (rd l0 (ji11)))) + (wrap64 ((rd l0 (ji8)) + t218))), wrap64 ((wrap64 ((rd l0 (ji5)) - (rd l0 (ji11)))) + (wrap64 (t217 - (rd l0 (ji14))))), wrap64 ((wrap64 ((rd l0 (ji5)) - (rd l0 (ji11)))) - (wrap64 (t217 - (rd l0 (ji14))))), wrap64 ((wrap64 ((rd l0 (ji5)) + (rd l0 (ji11)))) - (wrap64 ((rd l0 (ji8)) + t218)))] : List Int)) (inner := [.int .i64 (wrap64 ((wrap64 ((rd l0 (ji5)) + (rd l0 (ji11)))) + (wrap64 ((rd l0 (ji8)) + t218)))), .int .i64 (wrap64 ((wrap64 ((rd l0 (ji5)) - (rd l0 (ji11)))) + (wrap64 (t217 - (rd l0 (ji14)))))), .int .i64 (wrap64 ((wrap64 ((rd l0 (ji5)) - (rd l0 (ji11)))) - (wrap64 (t217 - (rd l0 (ji14)))))), .int .i64 (wrap64 ((wrap64 ((rd l0 (ji5)) + (rd l0 (ji11)))) - (wrap64 ((rd l0 (ji8)) + t218))))]) (ok := fun _ => True) (okp := fun _ => True) ?hr ?hp (fun _ hk => hk) trivial (Below.refl _ _) (Nat.le_refl _) (by simp) ?_; (case hd => rfl); (case hg => rfl); (case hr => first | (go_simp; done) | (go_simp; rfl)); (case hp => exact (Reps.one (show Kd.M (Kd.int .i64) _ _ _ (wrap64 ((wrap64 ((rd l0 (ji5)) + (rd l0 (ji11)))) + (wrap64 ((rd l0 (ji8)) + t218)))) [.int .i64 (wrap64 ((wrap64 ((rd l0 (ji5)) + (rd l0 (ji11)))) + (wrap64 ((rd l0 (ji8)) + t218))))] from rfl) (Reps.one (show Kd.M (Kd.int .i64) _ _ _ (wrap64 ((wrap64 ((rd l0 (ji5)) - (rd l0 (ji11)))) + (wrap64 (t217 - (rd l0 (ji14)))))) [.int .i64 (wrap64 ((wrap64 ((rd l0 (ji5)) - (rd l0 (ji11)))) + (wrap64 (t217 - (rd l0 (ji14))))))] from rfl) (Reps.one (show Kd.M (Kd.int .i64) _ _ _ (wrap64 ((wrap64 ((rd l0 (ji5)) - (rd l0 (ji11)))) - (wrap64 (t217 - (rd l0 (ji14)))))) [.int .i64 (wrap64 ((wrap64 ((rd l0 (ji5)) - (rd l0 (ji11)))) - (wrap64 (t217 - (rd l0 (ji14))))))] from rfl) (Reps.one (show Kd.M (Kd.int .i64) _ _ _ (wrap64 ((wrap64 ((rd l0 (ji5)) + (rd l0 (ji11)))) - (wrap64 ((rd l0 (ji8)) + t218)))) [.int .i64 (wrap64 ((wrap64 ((rd l0 (ji5)) + (rd l0 (ji11)))) - (wrap64 ((rd l0 (ji8)) + t218))))] from rfl) (Reps.none _ _)))))); intro v220 w20 ho21 hb hg_ hnew_; clear hg_ hnew_; (first | rw [← Ny219.out] at ho21 | (simp only [Int.reduceToNat] at ho21; rw [← Ny219.out] at ho21)); have HO221 := Aside0.mk (Kd.R_lower (Kd.R_new' ho21 (Kd.R_lt (ro HO_3.out))) (below_size (bo HB))); replace HO_3 := Aside0.mk (Kd.R_elder' (ro HO_3.out) (Kd.R_base ho21) hb); replace HB := bs HB hb; clear hb ho21; obtain ⟨Ao23, co23, eo23⟩ := Kd.R_slice HO221.out; subst eo23) | ((with_reducible refine gate_builtin (b := .append) (xs := #[.tmp 55, .tmp 68]) rfl ?_); at_builtin; refine Kd.R_append_rows (Kd.int .i64) (w0 := w) w.heap.size rfl (.tmp 55) (.tmp 68) 35 3 (.int .i64 0) 8 rfl Try.underlying35 info3 rfl (by decide) (by omega) u3 x3_1 y219 _ _ _ (fun k_ => some k_ ≠ (.slice Ao23 y219.length co23 : Value).ownBlock) (fun _ => False) rfl rfl ?aO ?aR (fun _ _ h => h) (fun _ h => h.elim) ?aF ?aB ?aS ?aL ?_; (case aR => repeat (first | exact (Kd.R_reads' HO221.out).2.2 | (with_reducible refine Kd.C_alloc ?_ _) | (with_reducible refine Kd.C_drewN ?_ _) | (with_reducible refine Kd.C_drew ?_))); (case aB => exact (bo HB)); (case aF => exact (fun k_ hk => Kd.fresh' (Kd.R_lt (ro HO221.out)) k_ hk)); (case aO => exact (ro (Kd.R_mono HO_3.out (fun _ hk => hk.2)))); (case aS => exact (below_size (bo HB))); (case aL => have := LMc19.out; omega); intro v223 w22 ho hb hg hat; rw [← Ny222.out] at ho; have HO224 := Aside0.mk (ho); replace HO221 := Aside0.mk (Kd.R_after (ok := (fun _ => True)) (ro HO221.out) hg hat); replace HB := Aside0.mk (hb); clear HO_3; clear ho hb hg hat))
             go_roundg k1
             case measure => have := HK1.out; omega
             case rel => exact ⟨(y222), (wrap64 (x4_1 + 1)), rv, H', ⟨by have := HK1.out; omega⟩, (ra (Kd.R_mono HO224.out (fun _ hk => trivial))), bh HB⟩
            ·rw [if_neg c19] at H
             exact absurd H (by simp)
           ·rw [if_neg c16] at H
            exact absurd H (by simp)
          ·rw [if_neg c15] at H
           exact absurd H (by simp)
         ·rw [if_neg c13] at H
          exact absurd H (by simp)
        ·rw [if_neg c12] at H
         exact absurd H (by simp)
       ·rw [if_neg c10] at H
        exact absurd H (by simp)
      ·rw [if_neg c9] at H
       exact absurd H (by simp)
     ·rw [if_neg c7] at H
      exact absurd H (by simp)
    ·rw [if_neg c6] at H
     exact absurd H (by simp)
   ·rw [if_neg c4] at H
    have c4b0 := decide_eq_false c4
    clear c4
    obtain rfl := Option.some.inj H
    go_wp2
    go_ret
    exact ⟨_, re, ro HO_3.out, bo HB⟩

end Go.Proofs.Ytnaccgommclhaaa.QFnExactSquareDots
