/- What the law reaches, as plain functions, each with the proof that its call comes to its answer: written by a program for this claim. -/
import Derived.Test.YtnaccgommclhaaaQFnExactSquareDotsx0
import Derived.Test.YtnaccgommclhaaaQFnExactSquareDotsx14
import Derived.Test.YtnaccgommclhaaaQFnExactSquareDotsx16
import Derived.Test.YtnaccgommclhaaaQFnExactSquareDotsx17
import Derived.Test.YtnaccgommclhaaaUFnExactSquareDotsV5
namespace Go.Proofs.Ytnaccgommclhaaa.QFnExactSquareDots
open Go.RowKit Go.Proofs.YtnaccgommclhaaaW.PrintWords Go.Proofs.YtnaccgommclhaaaW.PrintLast Go.Proofs.YtnaccgommclhaaaW.PrintMore Go.Proofs.YtnaccgommclhaaaV
attribute [local go_sem] max2_int min2_int max_two min_two max_three min_three max_four min_four   -- for this text's walks alone
set_option linter.unusedVariables false
set_option linter.unusedSimpArgs false
set_option maxHeartbeats 8000000
set_option maxRecDepth 100000

def impl_EightBack.f (k : Nat) (l0 : List Int) : Option (List Int) := (impl_areIn.f k l0 64 (-10000000) 10000000).bind fun t469 => (if t469 = true then ((impl_sums.f k l0).bind fun t470 => ((impl_settled.f k t470).bind fun t473 => (some t473))) else (some (([] : List Int))))
theorem impl_EightBack.calls (k : Nat) (A0 : Option Addr) (c0 : Nat) (l0 : List Int) (r : List Int) (w : World) (hr0 : Kd.C (Kd.int .i64) w A0 l0.length l0) (hc0 : l0.length ≤ c0) (h : impl_EightBack.f k l0 = some r) :
  Calls Try.prog 115 #[.slice A0 l0.length c0] w fun e w' => ∃ v0_ : Value, e = .returned (v0_) ∧ Kd.R (Kd.int .i64) 3 w' w.heap.size (fun _ => True) v0_ r ∧ Below w.heap.size w w' := by
 have HR0 := Aside0.mk hr0
 have HC0 := Aside0.mk hc0
 clear hr0 hc0
 have HB := Aside0.mk (Below.refl w.heap.size w)
 have H := h
 clear h
 unfold impl_EightBack.f at H
 replace H := bnd H
 obtain ⟨t469, A2, H⟩ := H
 by_cases c3 : t469 = true
 ·subst c3
  rw [if_pos rfl] at H
  replace H := bnd H
  obtain ⟨t470, A4, H⟩ := H
  replace H := bnd H
  obtain ⟨t473, A5, H⟩ := H
  obtain rfl := Option.some.inj H
  go_enter Try.func115, Try.ntmps115
  go_wp2_with (first | ((with_reducible refine gate_callee (f := 119) rfl ?_); refine gD (some 4) Try.func119 #[.slice A0 l0.length c0, .int .i64 64, .int .i64 (-10000000), .int .i64 10000000] (impl_areIn.calls k _ _ l0 64 (-10000000) 10000000 true _ ?side1 ?side2 A2.out) ?_; (case side1 => exact ca (HR0.out)); (case side2 => exact HC0.out); intro nd) | ((with_reducible refine gate_callee (f := 151) rfl ?_); refine gL (some 8) Try.func151 #[.slice A0 l0.length c0] ?_; (with_reducible refine (impl_sums.calls k _ _ l0 t470 _ ?side1 ?side2 A4.out).mono ?_); (case side1 => exact ca (HR0.out)); (case side2 => exact HC0.out); rintro e w6 ⟨v471, rfl, ho0, hb⟩; refine ⟨_, rfl, ?_⟩; have HO472 := Aside0.mk (Kd.R_lower ho0 (below_size (bo HB))); replace HB := bs HB hb; (try clear hb); (try clear ho0); obtain ⟨Ao7, co7, eo7⟩ := Kd.R_slice HO472.out; subst eo7) | ((with_reducible refine gate_callee (f := 150) rfl ?_); refine gL (some 9) Try.func150 #[.slice Ao7 t470.length co7] ?_; (with_reducible refine (impl_settled.calls k (fun k_ => some k_ = (.slice Ao7 t470.length co7 : Value).ownBlock) (.slice Ao7 t470.length co7) t470 t473 w _ ?side1 ?side2 A5.out).mono ?_); (case side1 => repeat (first | (with_reducible first | exact HB.out | apply below_alloc | apply pw_below_drewN | apply below_drew1) | exact HB.out)); (case side2 => exact Kd.R_tight rfl HO472.out); rintro e w8 ⟨v474, rfl, ho0, hb, hkp⟩; refine ⟨_, rfl, ?_⟩; have HO475 := Aside0.mk (Kd.R_mono (ok' := fun k_ => True) ho0 (fun k_ hk_ => trivial)); replace HB := Aside0.mk (hb); clear HO472; (try clear hb); (try clear hkp); (try clear ho0)))
  go_ret
  exact ⟨_, re, ro HO475.out, bo HB⟩
 ·replace c3 := Bool.eq_false_iff.mpr c3
  subst c3
  rw [if_neg nft] at H
  obtain ⟨y476, hy476⟩ : ∃ y_ : List Int, y_ = (([] : List Int)) := ⟨_, rfl⟩
  replace H : (some y476) = some r := by subst hy476; exact H
  have Ny476 := Aside0.mk hy476
  clear hy476
  obtain rfl := Option.some.inj H
  go_enter Try.func115, Try.ntmps115
  go_wp2_with (first | ((with_reducible refine gate_callee (f := 119) rfl ?_); refine gD (some 4) Try.func119 #[.slice A0 l0.length c0, .int .i64 64, .int .i64 (-10000000), .int .i64 10000000] (impl_areIn.calls k _ _ l0 64 (-10000000) 10000000 false _ ?side1 ?side2 A2.out) ?_; (case side1 => exact ca (HR0.out)); (case side2 => exact HC0.out); intro nd) | ((with_reducible refine gate_dst (N := 6) rfl ?_); refine Kd.R_lit (Kd.int .i64) _ 3 ?hg (N := 6) ?hd (xs := ([] : List Int)) (inner := []) (ok := fun _ => True) (okp := fun _ => True) ?hr ?hp (fun _ hk => hk) trivial (Below.refl _ _) (Nat.le_refl _) (by simp) ?_; (case hd => rfl); (case hg => rfl); (case hr => first | (go_simp; done) | (go_simp; rfl)); (case hp => exact (Reps.none _ _)); intro v477 w9 ho10 hb hg_ hnew_; clear hg_ hnew_; (first | rw [← Ny476.out] at ho10 | (simp only [Int.reduceToNat] at ho10; rw [← Ny476.out] at ho10)); have HO478 := Aside0.mk (Kd.R_lower ho10 (below_size (bo HB))); replace HB := bs HB hb; clear hb ho10))
  go_ret
  exact ⟨_, re, ro HO478.out, bo HB⟩

def impl_KindOf.j0 : Nat → Int → Int → Bool → Option (Int)
 | 0, _, _, _ => none
 | k + 1, x3, x4, x14 => if x14 = true then (some 0) else (if x3 = 1 then (if x4 = 1 then (some 1) else (some 2)) else (some 2))
def impl_KindOf.f (k : Nat) (a0 : Int) : Option (Int) := (impl_within.f a0 0 15).bind fun t479 => (if t479 = true then (if (Int.tmod (wrap64 (Int.tdiv a0 4)) 2) = 0 then (impl_KindOf.j0 k (Int.tmod (wrap64 (Int.tdiv a0 4)) 2) (Int.tmod (Int.tmod a0 4) 2) ((Int.tmod (Int.tmod a0 4) 2) == 0)) else (impl_KindOf.j0 k (Int.tmod (wrap64 (Int.tdiv a0 4)) 2) (Int.tmod (Int.tmod a0 4) 2) false)) else (some (-1)))
theorem impl_KindOf.calls (k : Nat) (a0 : Int) (r : Int) (w : World) (h : impl_KindOf.f k a0 = some r) :
  Calls Try.prog 166 #[.int .i64 a0] w fun e w' => e = .returned (.int .i64 r) ∧ Drawn0 w w' := by
 have H := h
 clear h
 unfold impl_KindOf.f at H
 replace H := bnd H
 obtain ⟨t479, A2, H⟩ := H
 by_cases c3 : t479 = true
 ·subst c3
  rw [if_pos rfl] at H
  have HC4 := Aside0.mk H
  clear H
  go_enter Try.func166, Try.ntmps166
  go_upto_region 4 with (first | ((with_reducible refine gate_callee (f := 55) rfl ?_); refine gD (some 6) Try.func55 #[.int .i64 a0, .int .i64 0, .int .i64 15] (impl_within.calls a0 0 15 true _ A2.out) ?_; intro nd))
  (try simp only [Act.put, List.setIfInBounds_toArray, List.set_cons_zero, List.set_cons_succ])
  go_cut [14] (fun v14 wc => ∃ (kq : Nat) (x14_3 : Bool), v14 = .bool x14_3 ∧ Aside0 (impl_KindOf.j0 kq (Int.tmod (wrap64 (Int.tdiv a0 4)) 2) (Int.tmod (Int.tmod a0 4) 2) x14_3 = some r) ∧ Aside0 (kq ≤ k) ∧ Drawn0 w wc)
  case first =>
   have H := HC4.out
   clear HC4
   by_cases c5 : (Int.tmod (wrap64 (Int.tdiv a0 4)) 2) = 0
   ·rw [if_pos c5] at H
    obtain ⟨c5b0, c5b1⟩ := eqt c5
    clear c5
    (first | rw [c5b0] | (simp only [i64_w, i32_w]; rw [c5b0]) | skip)
    have H' := Aside0.mk H
    clear H
    go_wp2
    go_meet
    case rel => exact ⟨_, (((Int.tmod (Int.tmod a0 4) 2) == 0)), rv, H', om, dr⟩
   ·rw [if_neg c5] at H
    obtain ⟨c5b0, c5b1⟩ := eqf c5
    (first | rw [c5b0] | (simp only [i64_w, i32_w]; rw [c5b0]) | skip)
    have H' := Aside0.mk H
    clear H
    go_wp2
    go_meet
    case rel => exact ⟨_, (false), rv, H', om, dr⟩
  case rest =>
   clear HC4
   obtain ⟨kq, x14_3, rfl, HA, HJ3, ⟨mc3, rfl⟩⟩ := hcut
   cases kq with
   | zero => exact absurd HA.out (by simp [impl_KindOf.j0])
   | succ kj3 =>
    have H := HA.out
    clear HA
    simp only [impl_KindOf.j0] at H
    by_cases c6 : x14_3 = true
    ·subst c6
     rw [if_pos rfl] at H
     obtain rfl := Option.some.inj H
     go_wp2
     go_ret
     exact ⟨rv, dr⟩
    ·replace c6 := Bool.eq_false_iff.mpr c6
     subst c6
     rw [if_neg nft] at H
     by_cases c7 : (Int.tmod (wrap64 (Int.tdiv a0 4)) 2) = 1
     ·rw [if_pos c7] at H
      obtain ⟨c7b0, c7b1⟩ := eqt c7
      clear c7
      by_cases c8 : (Int.tmod (Int.tmod a0 4) 2) = 1
      ·rw [if_pos c8] at H
       obtain ⟨c8b0, c8b1⟩ := eqt c8
       (try (have c8b0n := c8b0; simp only [tmod42] at c8b0n))
       (try (have c8b1n := c8b1; simp only [tmod42] at c8b1n))
       clear c8
       obtain rfl := Option.some.inj H
       go_wp2
       go_ret
       exact ⟨rv, dr⟩
      ·rw [if_neg c8] at H
       obtain ⟨c8b0, c8b1⟩ := eqf c8
       (try (have c8b0n := c8b0; simp only [tmod42] at c8b0n))
       (try (have c8b1n := c8b1; simp only [tmod42] at c8b1n))
       obtain rfl := Option.some.inj H
       go_wp2
       go_ret
       exact ⟨rv, dr⟩
     ·rw [if_neg c7] at H
      obtain ⟨c7b0, c7b1⟩ := eqf c7
      obtain rfl := Option.some.inj H
      go_wp2
      go_ret
      exact ⟨rv, dr⟩
 ·replace c3 := Bool.eq_false_iff.mpr c3
  subst c3
  rw [if_neg nft] at H
  obtain rfl := Option.some.inj H
  go_enter Try.func166, Try.ntmps166
  go_wp2_with (first | ((with_reducible refine gate_callee (f := 55) rfl ?_); refine gD (some 6) Try.func55 #[.int .i64 a0, .int .i64 0, .int .i64 15] (impl_within.calls a0 0 15 false _ A2.out) ?_; intro nd))
  go_ret
  exact ⟨rv, dr⟩

def scaleT (q k : Int) : Int := if q = 0 then (if k = 0 then 10 else if k = 1 then 16 else 13) else if q = 1 then (if k = 0 then 11 else if k = 1 then 18 else 14) else if q = 2 then (if k = 0 then 13 else if k = 1 then 20 else 16) else if q = 3 then (if k = 0 then 14 else if k = 1 then 23 else 18) else if q = 4 then (if k = 0 then 16 else if k = 1 then 25 else 20) else (if k = 0 then 18 else if k = 1 then 29 else 23)
def impl_ScaleOf.f (k : Nat) (a0 : Int) (a1 : Int) : Option (Int) := (impl_within.f a0 0 40).bind fun t1 => (if t1 = true then ((impl_within.f a1 0 15).bind fun t2 => (if t2 = true then ((impl_KindOf.f k a1).bind fun t3 => (if 0 ≤ t3 ∧ t3 < 3 then (some (shl .i64 (scaleT (Int.tmod a0 6) t3) (wrap64 (Int.tdiv a0 6)))) else none)) else (some 0))) else (some 0))
theorem impl_ScaleOf.le (a b c : Int) (h : impl_within.f a b c = some true) : b ≤ a ∧ a ≤ c := by
 unfold impl_within.f at h
 by_cases x : a ≥ b
 ·rw [if_pos x] at h; exact ⟨x, of_decide_eq_true (Option.some.inj h)⟩
 ·rw [if_neg x] at h; cases h
theorem impl_ScaleOf.calls (k : Nat) (a0 : Int) (a1 : Int) (r : Int) (w : World) (h : impl_ScaleOf.f k a0 a1 = some r) :
  Calls Try.prog 152 #[.int .i64 a0, .int .i64 a1] w fun e w' => e = .returned (.int .i64 r) ∧ Below w.heap.size w w' := by
 unfold impl_ScaleOf.f at h
 obtain ⟨t1, A10, H⟩ := Option.bind_eq_some_iff.mp h
 have A1 := Aside0.mk A10
 clear A10 h
 have HB := Aside0.mk (Below.refl w.heap.size w)
 cases t1 with
 | false =>
  obtain rfl : 0 = r := Option.some.inj H
  clear H
  go_enter Try.func152, Try.ntmps152
  go_wp2_with (first | (go_at_call 55; (with_reducible refine (impl_within.calls a0 0 40 false _ A1.out).mono ?_); rintro e w' ⟨rfl, ⟨nd, rfl⟩⟩))
  go_ret
  exact ⟨rfl, pw_below_drewN HB.out _⟩
 | true =>
  rw [if_pos rfl] at H
  obtain ⟨t2, A20, H⟩ := Option.bind_eq_some_iff.mp H
  have A2 := Aside0.mk A20
  clear A20
  cases t2 with
  | false =>
   obtain rfl : 0 = r := Option.some.inj H
   clear H
   go_enter Try.func152, Try.ntmps152
   go_wp2_with (first | (go_at_call 55; (with_reducible refine (impl_within.calls a0 0 40 true _ A1.out).mono ?_); rintro e w' ⟨rfl, ⟨nd, rfl⟩⟩) | (go_at_call 55; (with_reducible refine (impl_within.calls a1 0 15 false _ A2.out).mono ?_); rintro e w' ⟨rfl, ⟨nd, rfl⟩⟩))
   go_ret
   exact ⟨rfl, by repeat (first | exact HB.out | apply pw_below_drewN)⟩
  | true =>
   rw [if_pos rfl] at H
   obtain ⟨t3, A30, H⟩ := Option.bind_eq_some_iff.mp H
   have A3 := Aside0.mk A30
   clear A30
   have b0 := impl_ScaleOf.le _ _ _ A1.out
   have c : 0 ≤ t3 ∧ t3 < 3 := by
    by_cases c : 0 ≤ t3 ∧ t3 < 3
    ·exact c
    ·rw [if_neg c] at H; cases H
   rw [if_pos c] at H
   have e6 : Int.tmod a0 6 = a0 % 6 := Int.tmod_eq_emod_of_nonneg b0.1
   have hq : Int.tmod a0 6 = 0 ∨ Int.tmod a0 6 = 1 ∨ Int.tmod a0 6 = 2 ∨ Int.tmod a0 6 = 3 ∨ Int.tmod a0 6 = 4 ∨ Int.tmod a0 6 = 5 := by rw [e6]; omega
   have hk : t3 = 0 ∨ t3 = 1 ∨ t3 = 2 := by omega
   have F := Aside0.mk hq
   have G := Aside0.mk hk
   have HR := Aside0.mk H
   have B0 := Aside0.mk b0
   clear H b0 c hq hk e6
   go_enter Try.func152, Try.ntmps152
   go_upto_region 3 with (first | (go_at_call 55; (with_reducible refine (impl_within.calls a0 0 40 true _ A1.out).mono ?_); rintro e w' ⟨rfl, ⟨nd, rfl⟩⟩) | (go_at_call 55; (with_reducible refine (impl_within.calls a1 0 15 true _ A2.out).mono ?_); rintro e w' ⟨rfl, ⟨nd, rfl⟩⟩))
   (try simp only [Act.put, List.setIfInBounds_toArray, List.set_cons_zero, List.set_cons_succ])
   generalize hw1 : World.drewN w _ = w1
   have HB1 := Aside0.mk (show Below w.heap.size w w1 by rw [← hw1]; exact pw_below_drewN HB.out _)
   clear hw1 HB
   have hs := run_storeCells_new (P := Try.prog) w1 162 #[.int .i64 0, .int .i64 0, .int .i64 0, .int .i64 0, .int .i64 0, .int .i64 0, .int .i64 0, .int .i64 0, .int .i64 0, .int .i64 0, .int .i64 0, .int .i64 0, .int .i64 0, .int .i64 0, .int .i64 0, .int .i64 0, .int .i64 0, .int .i64 0] #[.int .i64 10, .int .i64 16, .int .i64 13, .int .i64 11, .int .i64 18, .int .i64 14, .int .i64 13, .int .i64 20, .int .i64 16, .int .i64 14, .int .i64 23, .int .i64 18, .int .i64 16, .int .i64 25, .int .i64 20, .int .i64 18, .int .i64 29, .int .i64 23] (by kernel_rfl) rfl (by kernel_rfl)
   go_upto_region 4 with (fail)
   clear hs
   have HB := Aside0.mk (below_alloc HB1.out (.cells #[.int .i64 10, .int .i64 16, .int .i64 13, .int .i64 11, .int .i64 18, .int .i64 14, .int .i64 13, .int .i64 20, .int .i64 16, .int .i64 14, .int .i64 23, .int .i64 18, .int .i64 16, .int .i64 25, .int .i64 20, .int .i64 18, .int .i64 29, .int .i64 23] 162))
   clear HB1
   obtain ⟨hq⟩ := F
   obtain ⟨hk⟩ := G
   obtain rfl := Option.some.inj HR.out
   clear HR H
   obtain ⟨j, hj⟩ : ∃ j_ : Int, wrap64 (Int.tdiv a0 6) = j_ := ⟨_, rfl⟩
   have hjw : IntKind.i64.wrap (Int.tdiv a0 6) = j := (i64_w _).trans hj
   have hj0 : 0 ≤ j := by obtain ⟨b0⟩ := B0; rw [← hj, Int.tdiv_eq_ediv_of_nonneg b0.1]; unfold wrap64; omega
   have hjd : decide (0 ≤ j) = true := decide_eq_true hj0
   have HJ := Aside0.mk hj
   clear hj B0
   replace hj0 := eq_true hj0
   rcases hq with hq | hq | hq | hq | hq | hq <;> rcases hk with rfl | rfl | rfl <;> (
    go_quiet (first | (go_at_call 166; (with_reducible refine (impl_KindOf.calls k a1 _ _ A3.out).mono ?_); rintro e w' ⟨rfl, ⟨nd, rfl⟩⟩; (try first | exact ⟨rfl, _, World.drewN_drewN _ _ _⟩ | exact ⟨rfl, _, Eq.trans (World.drewN_drewN _ _ _) (congrArg (World.drewN _) (Nat.add_assoc _ _ _))⟩)))
    go_wp2
    go_ret
    exact ⟨by rw [hq, HJ.out]; exact congrArg (fun z => Ending.returned (.int .i64 z)) (i64_w (_ * 2 ^ min j.toNat 64)).symm, pw_below_drewN HB.out _⟩)


def impl_SmallBack.f (k : Nat) (a0 : Int) (a1 : Int) (a2 : Int) : Option (Int) := (impl_within.f a0 (-5000) 5000).bind fun t480 => (if t480 = true then ((impl_ScaleOf.f k a1 a2).bind fun t481 => (some (wrap64 (a0 * t481)))) else (some 0))
theorem impl_SmallBack.calls (k : Nat) (a0 : Int) (a1 : Int) (a2 : Int) (r : Int) (w : World) (h : impl_SmallBack.f k a0 a1 a2 = some r) :
  Calls Try.prog 116 #[.int .i64 a0, .int .i64 a1, .int .i64 a2] w fun e w' => e = .returned (.int .i64 r) ∧ Below w.heap.size w w' := by
 have HB := Aside0.mk (Below.refl w.heap.size w)
 have H := h
 clear h
 unfold impl_SmallBack.f at H
 replace H := bnd H
 obtain ⟨t480, A4, H⟩ := H
 by_cases c5 : t480 = true
 ·subst c5
  rw [if_pos rfl] at H
  replace H := bnd H
  obtain ⟨t481, A6, H⟩ := H
  obtain rfl := Option.some.inj H
  go_enter Try.func116, Try.ntmps116
  go_wp2_with (first | ((with_reducible refine gate_callee (f := 55) rfl ?_); refine gD (some 8) Try.func55 #[.int .i64 a0, .int .i64 (-5000), .int .i64 5000] (impl_within.calls a0 (-5000) 5000 true _ A4.out) ?_; intro nd) | ((with_reducible refine gate_callee (f := 152) rfl ?_); refine gL (some 13) Try.func152 #[.int .i64 a1, .int .i64 a2] ?_; (with_reducible refine (impl_ScaleOf.calls k a1 a2 t481 _ A6.out).mono ?_); rintro e w7 ⟨rfl, hb⟩; refine ⟨_, rfl, ?_⟩; replace HB := bs HB hb; (try clear hb)))
  go_ret
  exact ⟨re, bo HB⟩
 ·replace c5 := Bool.eq_false_iff.mpr c5
  subst c5
  rw [if_neg nft] at H
  obtain rfl := Option.some.inj H
  go_enter Try.func116, Try.ntmps116
  go_wp2_with (first | ((with_reducible refine gate_callee (f := 55) rfl ?_); refine gD (some 8) Try.func55 #[.int .i64 a0, .int .i64 (-5000), .int .i64 5000] (impl_within.calls a0 (-5000) 5000 false _ A4.out) ?_; intro nd))
  go_ret
  exact ⟨re, bo HB⟩

def impl_copyInts.f (l0 : List Int) : Option (List Int) := (some (([] : List Int) : List Int)).bind fun y482 => (if y482.length + l0.length < 17592186044416 then (some (y482 ++ l0)) else (none))
theorem impl_copyInts.calls (A0 : Option Addr) (c0 : Nat) (l0 : List Int) (r : List Int) (w : World) (hr0 : Kd.C (Kd.int .i64) w A0 l0.length l0) (hc0 : l0.length ≤ c0) (h : impl_copyInts.f l0 = some r) :
  Calls Try.prog 167 #[.slice A0 l0.length c0] w fun e w' => ∃ v0_ : Value, e = .returned (v0_) ∧ Kd.R (Kd.int .i64) 3 w' w.heap.size (fun _ => True) v0_ r ∧ Below w.heap.size w w' := by
 have HR0 := Aside0.mk hr0
 have HC0 := Aside0.mk hc0
 clear hr0 hc0
 have HB := Aside0.mk (Below.refl w.heap.size w)
 have H := h
 clear h
 unfold impl_copyInts.f at H
 replace H := yl H
 obtain ⟨y482, Ny482, H⟩ := H
 by_cases c2 : y482.length + l0.length < 17592186044416
 ·rw [if_pos c2] at H
  have LMc2 := Aside0.mk c2
  clear c2
  obtain ⟨y485, hy485⟩ : ∃ y_ : List Int, y_ = (y482 ++ l0) := ⟨_, rfl⟩
  replace H : (some y485) = some r := by subst hy485; exact H
  have Ny485 := Aside0.mk hy485
  clear hy485
  obtain rfl := Option.some.inj H
  go_enter Try.func167, Try.ntmps167
  go_wp2_with (first | ((with_reducible refine gate_dst (N := 3) rfl ?_); refine Kd.R_lit (Kd.int .i64) _ 3 ?hg (N := 3) ?hd (xs := ([] : List Int)) (inner := []) (ok := fun _ => True) (okp := fun _ => True) ?hr ?hp (fun _ hk => hk) trivial (Below.refl _ _) (Nat.le_refl _) (by simp) ?_; (case hd => rfl); (case hg => rfl); (case hr => first | (go_simp; done) | (go_simp; rfl)); (case hp => exact (Reps.none _ _)); intro v483 w3 ho4 hb hg_ hnew_; clear hg_ hnew_; (first | rw [← Ny482.out] at ho4 | (simp only [Int.reduceToNat] at ho4; rw [← Ny482.out] at ho4)); have HO484 := Aside0.mk (Kd.R_lower ho4 (below_size (bo HB))); replace HB := bs HB hb; clear hb ho4) | ((with_reducible refine gate_builtin (b := .append) (xs := #[.tmp 3, .tmp 4]) rfl ?_); at_builtin; refine Kd.R_append_rows (Kd.int .i64) (w0 := w) w.heap.size rfl (.tmp 3) (.tmp 4) 35 3 (.int .i64 0) 8 rfl Try.underlying35 info3 rfl (by decide) (by omega) v483 y482 l0 _ _ _ (fun _ => True) (fun _ => False) rfl rfl ?aO ?aR (fun _ _ h => h) (fun _ h => h.elim) ?aF ?aB ?aS ?aL ?_; (case aR => repeat (first | exact (Kd.C_below HR0.out HB.out) | (with_reducible refine Kd.C_alloc ?_ _) | (with_reducible refine Kd.C_drewN ?_ _) | (with_reducible refine Kd.C_drew ?_))); (case aB => exact (bo HB)); (case aF => exact (fun _ _ => trivial)); (case aO => exact (ro HO484.out)); (case aS => exact (below_size (bo HB))); (case aL => have := LMc2.out; omega); intro v486 w5 ho hb hg hat; rw [← Ny485.out] at ho; have HO487 := Aside0.mk (ho); replace HB := Aside0.mk (hb); clear HO484; clear ho hb hg hat))
  go_ret
  exact ⟨_, re, ro HO487.out, bo HB⟩
 ·rw [if_neg c2] at H
  exact absurd H (by simp)

-- NOT PRINTED: function 153 (impl_turned)

end Go.Proofs.Ytnaccgommclhaaa.QFnExactSquareDots
