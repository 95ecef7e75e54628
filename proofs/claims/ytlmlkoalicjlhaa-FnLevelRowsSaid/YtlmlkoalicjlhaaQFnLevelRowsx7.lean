/- What the law reaches, as plain functions, each with the proof that its call comes to its answer: written by a program for this claim. -/
import Derived.Test.YtlmlkoalicjlhaaQFnLevelRowsx0
import Derived.Test.YtlmlkoalicjlhaaQFnLevelRowsx1
namespace Go.Proofs.Ytlmlkoalicjlhaa.QFnLevelRows
open Go.RowKit Go.Proofs.YtlmlkoalicjlhaaW.PrintWords Go.Proofs.YtlmlkoalicjlhaaW.PrintLast Go.Proofs.YtlmlkoalicjlhaaW.PrintMore Go.Proofs.YtlmlkoalicjlhaaV
attribute [local go_sem] max2_int min2_int max_two min_two max_three min_three max_four min_four   -- for this text's walks alone
set_option linter.unusedVariables false
set_option linter.unusedSimpArgs false

def impl_KindOf.j0 : Nat → Int → Int → Bool → Option (Int)
 | 0, _, _, _ => none
 | k + 1, x3, x4, x14 => if x14 = true then (some 0) else (if x3 = 1 then (if x4 = 1 then (some 1) else (some 2)) else (some 2))
def impl_KindOf.f (k : Nat) (a0 : Int) : Option (Int) := (impl_within.f a0 0 15).bind fun t215 => (if t215 = true then (if (Int.tmod (wrap64 (Int.tdiv a0 4)) 2) = 0 then (impl_KindOf.j0 k (Int.tmod (wrap64 (Int.tdiv a0 4)) 2) (Int.tmod (Int.tmod a0 4) 2) ((Int.tmod (Int.tmod a0 4) 2) == 0)) else (impl_KindOf.j0 k (Int.tmod (wrap64 (Int.tdiv a0 4)) 2) (Int.tmod (Int.tmod a0 4) 2) false)) else (some (-1)))
theorem impl_KindOf.mono_l : ∀ k, (∀ y0 y1 y2, LeO (impl_KindOf.j0 k y0 y1 y2) (impl_KindOf.j0 (k + 1) y0 y1 y2))
 | 0 => fun _ _ _ r h => by simp [impl_KindOf.j0] at h
 | k + 1 => by
  have ih0 := impl_KindOf.mono_l k
  ·intro y0 y1 y2
   unfold impl_KindOf.j0
   repeat' first
   | (with_reducible exact ih0 _ _ _)
   | (with_reducible exact LeO.refl _)
   | (with_reducible exact LeO.none _)
   | (with_reducible refine LeO.ite ?_ ?_)
   | (with_reducible refine LeO.bind ?_ (fun _ => ?_))
   | exact ih0 _ _ _
   | exact LeO.none _
   | refine LeO.ite ?_ ?_
   | refine LeO.bind ?_ (fun _ => ?_)
theorem impl_KindOf.mono : ∀ a0 k, LeO (impl_KindOf.f k a0) (impl_KindOf.f (k + 1) a0) := by
 intro a0 k
 have ih0 := impl_KindOf.mono_l k
 unfold impl_KindOf.f
 repeat' first
   | (with_reducible exact ih0 _ _ _)
   | (with_reducible exact LeO.refl _)
   | (with_reducible exact LeO.none _)
   | (with_reducible refine LeO.ite ?_ ?_)
   | (with_reducible refine LeO.bind ?_ (fun _ => ?_))
   | exact ih0 _ _ _
   | exact LeO.none _
   | refine LeO.ite ?_ ?_
   | refine LeO.bind ?_ (fun _ => ?_)
set_option maxHeartbeats 8000000 in
set_option maxRecDepth 100000 in
theorem impl_KindOf.calls (k : Nat) (a0 : Int) (r : Int) (w : World) (h : impl_KindOf.f k a0 = some r) :
  Calls Try.prog 157 #[.int .i64 a0] w fun e w' => e = .returned (.int .i64 r) ∧ Drawn0 w w' := by
 have H : ((impl_within.f a0 0 15).bind fun t215 => (if t215 = true then (if (Int.tmod (wrap64 (Int.tdiv a0 4)) 2) = 0 then (impl_KindOf.j0 k (Int.tmod (wrap64 (Int.tdiv a0 4)) 2) (Int.tmod (Int.tmod a0 4) 2) ((Int.tmod (Int.tmod a0 4) 2) == 0)) else (impl_KindOf.j0 k (Int.tmod (wrap64 (Int.tdiv a0 4)) 2) (Int.tmod (Int.tmod a0 4) 2) false)) else (some (-1)))) = some r := h
 clear h
 replace H := Option.bind_eq_some_iff.mp H
 obtain ⟨t215, A20, H⟩ := H
 replace H : (if t215 = true then (if (Int.tmod (wrap64 (Int.tdiv a0 4)) 2) = 0 then (impl_KindOf.j0 k (Int.tmod (wrap64 (Int.tdiv a0 4)) 2) (Int.tmod (Int.tmod a0 4) 2) ((Int.tmod (Int.tmod a0 4) 2) == 0)) else (impl_KindOf.j0 k (Int.tmod (wrap64 (Int.tdiv a0 4)) 2) (Int.tmod (Int.tmod a0 4) 2) false)) else (some (-1))) = some r := H
 have A2 := Aside0.mk A20
 clear A20
 by_cases c3 : t215 = true
 ·subst c3
  have H1 : (if (Int.tmod (wrap64 (Int.tdiv a0 4)) 2) = 0 then (impl_KindOf.j0 k (Int.tmod (wrap64 (Int.tdiv a0 4)) 2) (Int.tmod (Int.tmod a0 4) 2) ((Int.tmod (Int.tmod a0 4) 2) == 0)) else (impl_KindOf.j0 k (Int.tmod (wrap64 (Int.tdiv a0 4)) 2) (Int.tmod (Int.tmod a0 4) 2) false)) = some r := by rw [if_pos rfl] at H; exact H
  clear H
  have H := H1
  clear H1
  have HC4 := Aside0.mk H
  clear H
  go_enter Try.func157, Try.ntmps157
  go_upto_region 4 with (first | ((with_reducible refine gate_callee (f := 80) rfl ?_); refine goesL_ (some 6) rfl rfl Try.func80 (by kernel_rfl) rfl #[.int .i64 a0, .int .i64 0, .int .i64 15] rfl (by (try simp only [List.map_toArray, List.map_cons, List.map_nil]); first | done | rfl | (simp only [List.length_drop, List.length_take]; rfl)) ?_; (with_reducible refine (impl_within.calls a0 0 15 true _ A2.out).mono ?_); rintro e w' ⟨rfl, ⟨nd, rfl⟩⟩; refine ⟨_, rfl, ?_⟩))
  (try simp only [Act.put, List.setIfInBounds_toArray, List.set_cons_zero, List.set_cons_succ])
  go_cut [14] (fun v14 wc => ∃ (kq : Nat) (x14_3 : Bool), v14 = .bool x14_3 ∧ Aside0 (impl_KindOf.j0 kq (Int.tmod (wrap64 (Int.tdiv a0 4)) 2) (Int.tmod (Int.tmod a0 4) 2) x14_3 = some r) ∧ Aside0 (kq ≤ k) ∧ Drawn0 w wc)
  case first =>
   have H := HC4.out
   clear HC4
   by_cases c5 : (Int.tmod (wrap64 (Int.tdiv a0 4)) 2) = 0
   ·rw [if_pos c5] at H
    have c5b0 : ((Int.tmod (wrap64 (Int.tdiv a0 4)) 2) == 0) = true := beq_iff_eq.mpr c5
    have c5b1 : ((Int.tmod (wrap64 (Int.tdiv a0 4)) 2) != 0) = false := bne_eq_false_iff_eq.mpr c5
    clear c5
    (first | rw [c5b0] | (simp only [i64_w, i32_w]; rw [c5b0]) | skip)
    have H' := Aside0.mk H
    clear H
    go_wp2
    go_meet
    case rel => exact ⟨_, (((Int.tmod (Int.tmod a0 4) 2) == 0)), (by first | rfl | (simp; done) | (simp [*]; done)), H', ⟨by first | omega | exact Nat.le_refl _⟩, by repeat (first | exact Drawn0.refl _ | apply Drawn0.step)⟩
   ·rw [if_neg c5] at H
    have c5b0 : ((Int.tmod (wrap64 (Int.tdiv a0 4)) 2) == 0) = false := beq_eq_false_iff_ne.mpr c5
    have c5b1 : ((Int.tmod (wrap64 (Int.tdiv a0 4)) 2) != 0) = true := bne_iff_ne.mpr c5
    (first | rw [c5b0] | (simp only [i64_w, i32_w]; rw [c5b0]) | skip)
    have H' := Aside0.mk H
    clear H
    go_wp2
    go_meet
    case rel => exact ⟨_, (false), (by first | rfl | (simp; done) | (simp [*]; done)), H', ⟨by first | omega | exact Nat.le_refl _⟩, by repeat (first | exact Drawn0.refl _ | apply Drawn0.step)⟩
  case rest =>
   clear HC4
   try clear c1
   try clear p2
   try clear c3
   try clear c5
   try clear c5b0
   try clear c5b1
   obtain ⟨kq, x14_3, rfl, HA, HJ3, ⟨mc3, rfl⟩⟩ := hcut
   cases kq with
   | zero => exact absurd HA.out (by simp [impl_KindOf.j0])
   | succ kj3 =>
    have H := HA.out
    clear HA
    simp only [impl_KindOf.j0] at H
    by_cases c6 : x14_3 = true
    ·subst c6
     have H1 : (some 0) = some r := by rw [if_pos rfl] at H; exact H
     clear H
     have H := H1
     clear H1
     obtain rfl := Option.some.inj H
     go_wp2
     go_ret
     exact ⟨by first | rfl | (simp; done) | (simp [*]; done), by repeat (first | exact Drawn0.refl _ | apply Drawn0.step)⟩
    ·replace c6 := Bool.eq_false_iff.mpr c6
     subst c6
     have H1 : (if (Int.tmod (wrap64 (Int.tdiv a0 4)) 2) = 1 then (if (Int.tmod (Int.tmod a0 4) 2) = 1 then (some 1) else (some 2)) else (some 2)) = some r := by rw [if_neg (show ¬ (false = true) by decide)] at H; exact H
     clear H
     have H := H1
     clear H1
     by_cases c7 : (Int.tmod (wrap64 (Int.tdiv a0 4)) 2) = 1
     ·rw [if_pos c7] at H
      have c7b0 : ((Int.tmod (wrap64 (Int.tdiv a0 4)) 2) == 1) = true := beq_iff_eq.mpr c7
      have c7b1 : ((Int.tmod (wrap64 (Int.tdiv a0 4)) 2) != 1) = false := bne_eq_false_iff_eq.mpr c7
      clear c7
      by_cases c8 : (Int.tmod (Int.tmod a0 4) 2) = 1
      ·rw [if_pos c8] at H
       have c8b0 : ((Int.tmod (Int.tmod a0 4) 2) == 1) = true := beq_iff_eq.mpr c8
       have c8b1 : ((Int.tmod (Int.tmod a0 4) 2) != 1) = false := bne_eq_false_iff_eq.mpr c8
       (try (have c8b0n := c8b0; simp only [tmod42] at c8b0n))
       (try (have c8b1n := c8b1; simp only [tmod42] at c8b1n))
       clear c8
       obtain rfl := Option.some.inj H
       go_wp2
       go_ret
       exact ⟨by first | rfl | (simp; done) | (simp [*]; done), by repeat (first | exact Drawn0.refl _ | apply Drawn0.step)⟩
      ·rw [if_neg c8] at H
       have c8b0 : ((Int.tmod (Int.tmod a0 4) 2) == 1) = false := beq_eq_false_iff_ne.mpr c8
       have c8b1 : ((Int.tmod (Int.tmod a0 4) 2) != 1) = true := bne_iff_ne.mpr c8
       (try (have c8b0n := c8b0; simp only [tmod42] at c8b0n))
       (try (have c8b1n := c8b1; simp only [tmod42] at c8b1n))
       obtain rfl := Option.some.inj H
       go_wp2
       go_ret
       exact ⟨by first | rfl | (simp; done) | (simp [*]; done), by repeat (first | exact Drawn0.refl _ | apply Drawn0.step)⟩
     ·rw [if_neg c7] at H
      have c7b0 : ((Int.tmod (wrap64 (Int.tdiv a0 4)) 2) == 1) = false := beq_eq_false_iff_ne.mpr c7
      have c7b1 : ((Int.tmod (wrap64 (Int.tdiv a0 4)) 2) != 1) = true := bne_iff_ne.mpr c7
      obtain rfl := Option.some.inj H
      go_wp2
      go_ret
      exact ⟨by first | rfl | (simp; done) | (simp [*]; done), by repeat (first | exact Drawn0.refl _ | apply Drawn0.step)⟩
 ·replace c3 := Bool.eq_false_iff.mpr c3
  subst c3
  have H1 : (some (-1)) = some r := by rw [if_neg (show ¬ (false = true) by decide)] at H; exact H
  clear H
  have H := H1
  clear H1
  obtain rfl := Option.some.inj H
  go_enter Try.func157, Try.ntmps157
  go_wp2_with (first | ((with_reducible refine gate_callee (f := 80) rfl ?_); refine goesL_ (some 6) rfl rfl Try.func80 (by kernel_rfl) rfl #[.int .i64 a0, .int .i64 0, .int .i64 15] rfl (by (try simp only [List.map_toArray, List.map_cons, List.map_nil]); first | done | rfl | (simp only [List.length_drop, List.length_take]; rfl)) ?_; (with_reducible refine (impl_within.calls a0 0 15 false _ A2.out).mono ?_); rintro e w' ⟨rfl, ⟨nd, rfl⟩⟩; refine ⟨_, rfl, ?_⟩))
  go_ret
  exact ⟨by first | rfl | (simp; done) | (simp [*]; done), by repeat (first | exact Drawn0.refl _ | apply Drawn0.step)⟩

def scaleT (q k : Int) : Int := if q = 0 then (if k = 0 then 10 else if k = 1 then 16 else 13) else if q = 1 then (if k = 0 then 11 else if k = 1 then 18 else 14) else if q = 2 then (if k = 0 then 13 else if k = 1 then 20 else 16) else if q = 3 then (if k = 0 then 14 else if k = 1 then 23 else 18) else if q = 4 then (if k = 0 then 16 else if k = 1 then 25 else 20) else (if k = 0 then 18 else if k = 1 then 29 else 23)
def impl_ScaleOf.f (k : Nat) (a0 : Int) (a1 : Int) : Option (Int) := (impl_within.f a0 0 40).bind fun t1 => (if t1 = true then ((impl_within.f a1 0 15).bind fun t2 => (if t2 = true then ((impl_KindOf.f k a1).bind fun t3 => (if 0 ≤ t3 ∧ t3 < 3 then (some (shl .i64 (scaleT (Int.tmod a0 6) t3) (wrap64 (Int.tdiv a0 6)))) else none)) else (some 0))) else (some 0))
theorem impl_ScaleOf.mono : ∀ a0 a1 k, LeO (impl_ScaleOf.f k a0 a1) (impl_ScaleOf.f (k + 1) a0 a1) := by
 intro a0 a1 k
 unfold impl_ScaleOf.f
 repeat' first
   | (with_reducible exact impl_KindOf.mono _ _)
   | (with_reducible exact LeO.refl _)
   | (with_reducible exact LeO.none _)
   | (with_reducible refine LeO.ite ?_ ?_)
   | (with_reducible refine LeO.bind ?_ (fun _ => ?_))
   | exact impl_KindOf.mono _ _
   | exact LeO.none _
   | refine LeO.ite ?_ ?_
   | refine LeO.bind ?_ (fun _ => ?_)
theorem impl_ScaleOf.le (a b c : Int) (h : impl_within.f a b c = some true) : b ≤ a ∧ a ≤ c := by
 unfold impl_within.f at h
 by_cases x : a ≥ b
 ·rw [if_pos x] at h; exact ⟨x, of_decide_eq_true (Option.some.inj h)⟩
 ·rw [if_neg x] at h; cases h
set_option maxHeartbeats 8000000 in
set_option maxRecDepth 100000 in
theorem impl_ScaleOf.calls (k : Nat) (a0 : Int) (a1 : Int) (r : Int) (w : World) (h : impl_ScaleOf.f k a0 a1 = some r) :
  Calls Try.prog 143 #[.int .i64 a0, .int .i64 a1] w fun e w' => e = .returned (.int .i64 r) ∧ Below w.heap.size w w' := by
 unfold impl_ScaleOf.f at h
 obtain ⟨t1, A10, H⟩ := Option.bind_eq_some_iff.mp h
 have A1 := Aside0.mk A10
 clear A10 h
 have HB := Aside0.mk (Below.refl w.heap.size w)
 cases t1 with
 | false =>
  obtain rfl : 0 = r := Option.some.inj H
  clear H
  go_enter Try.func143, Try.ntmps143
  go_wp2_with (first | (go_at_call 80; (with_reducible refine (impl_within.calls a0 0 40 false _ A1.out).mono ?_); rintro e w' ⟨rfl, ⟨nd, rfl⟩⟩))
  go_ret
  exact ⟨rfl, pw_below_drewN HB.out _⟩
 | true =>
  rw [if_pos rfl] at H
  obtain ⟨t2, A20, H⟩ := Option.bind_eq_some_iff.mp H
  have A2 := Aside0.mk A20
  clear A20
  cases t2 with
  | false =>
   obtain rfl : 0 = r := Option.some.inj H
   clear H
   go_enter Try.func143, Try.ntmps143
   go_wp2_with (first | (go_at_call 80; (with_reducible refine (impl_within.calls a0 0 40 true _ A1.out).mono ?_); rintro e w' ⟨rfl, ⟨nd, rfl⟩⟩) | (go_at_call 80; (with_reducible refine (impl_within.calls a1 0 15 false _ A2.out).mono ?_); rintro e w' ⟨rfl, ⟨nd, rfl⟩⟩))
   go_ret
   exact ⟨rfl, by repeat (first | exact HB.out | apply pw_below_drewN)⟩
  | true =>
   rw [if_pos rfl] at H
   obtain ⟨t3, A30, H⟩ := Option.bind_eq_some_iff.mp H
   have A3 := Aside0.mk A30
   clear A30
   have b0 := impl_ScaleOf.le _ _ _ A1.out
   have c : 0 ≤ t3 ∧ t3 < 3 := by
    by_cases c : 0 ≤ t3 ∧ t3 < 3
    ·exact c
    ·rw [if_neg c] at H; cases H
   rw [if_pos c] at H
   have e6 : Int.tmod a0 6 = a0 % 6 := Int.tmod_eq_emod_of_nonneg b0.1
   have hq : Int.tmod a0 6 = 0 ∨ Int.tmod a0 6 = 1 ∨ Int.tmod a0 6 = 2 ∨ Int.tmod a0 6 = 3 ∨ Int.tmod a0 6 = 4 ∨ Int.tmod a0 6 = 5 := by rw [e6]; omega
   have hk : t3 = 0 ∨ t3 = 1 ∨ t3 = 2 := by omega
   have F := Aside0.mk hq
   have G := Aside0.mk hk
   have HR := Aside0.mk H
   have B0 := Aside0.mk b0
   clear H b0 c hq hk e6
   go_enter Try.func143, Try.ntmps143
   go_upto_region 3 with (first | (go_at_call 80; (with_reducible refine (impl_within.calls a0 0 40 true _ A1.out).mono ?_); rintro e w' ⟨rfl, ⟨nd, rfl⟩⟩) | (go_at_call 80; (with_reducible refine (impl_within.calls a1 0 15 true _ A2.out).mono ?_); rintro e w' ⟨rfl, ⟨nd, rfl⟩⟩))
   (try simp only [Act.put, List.setIfInBounds_toArray, List.set_cons_zero, List.set_cons_succ])
   generalize hw1 : World.drewN w _ = w1
   have HB1 := Aside0.mk (show Below w.heap.size w w1 by rw [← hw1]; exact pw_below_drewN HB.out _)
   clear hw1 HB
   have hs := run_storeCells_new (P := Try.prog) w1 125 #[.int .i64 0, .int .i64 0, .int .i64 0, .int .i64 0, .int .i64 0, .int .i64 0, .int .i64 0, .int .i64 0, .int .i64 0, .int .i64 0, .int .i64 0, .int .i64 0, .int .i64 0, .int .i64 0, .int .i64 0, .int .i64 0, .int .i64 0, .int .i64 0] #[.int .i64 10, .int .i64 16, .int .i64 13, .int .i64 11, .int .i64 18, .int .i64 14, .int .i64 13, .int .i64 20, .int .i64 16, .int .i64 14, .int .i64 23, .int .i64 18, .int .i64 16, .int .i64 25, .int .i64 20, .int .i64 18, .int .i64 29, .int .i64 23] (by kernel_rfl) rfl (by kernel_rfl)
   go_upto_region 4 with (fail)
   clear hs
   have HB := Aside0.mk (below_alloc HB1.out (.cells #[.int .i64 10, .int .i64 16, .int .i64 13, .int .i64 11, .int .i64 18, .int .i64 14, .int .i64 13, .int .i64 20, .int .i64 16, .int .i64 14, .int .i64 23, .int .i64 18, .int .i64 16, .int .i64 25, .int .i64 20, .int .i64 18, .int .i64 29, .int .i64 23] 125))
   clear HB1
   obtain ⟨hq⟩ := F
   obtain ⟨hk⟩ := G
   obtain rfl := Option.some.inj HR.out
   clear HR H
   obtain ⟨j, hj⟩ : ∃ j_ : Int, wrap64 (Int.tdiv a0 6) = j_ := ⟨_, rfl⟩
   have hjw : IntKind.i64.wrap (Int.tdiv a0 6) = j := (i64_w _).trans hj
   have hj0 : 0 ≤ j := by obtain ⟨b0⟩ := B0; rw [← hj, Int.tdiv_eq_ediv_of_nonneg b0.1]; unfold wrap64; omega
   have hjd : decide (0 ≤ j) = true := decide_eq_true hj0
   have HJ := Aside0.mk hj
   clear hj B0
   replace hj0 := eq_true hj0
   rcases hq with hq | hq | hq | hq | hq | hq <;> rcases hk with rfl | rfl | rfl <;> (
    go_quiet (first | (go_at_call 157; (with_reducible refine (impl_KindOf.calls k a1 _ _ A3.out).mono ?_); rintro e w' ⟨rfl, ⟨nd, rfl⟩⟩; (try first | exact ⟨rfl, _, World.drewN_drewN _ _ _⟩ | exact ⟨rfl, _, Eq.trans (World.drewN_drewN _ _ _) (congrArg (World.drewN _) (Nat.add_assoc _ _ _))⟩)))
    go_wp2
    go_ret
    exact ⟨by rw [hq, HJ.out]; exact congrArg (fun z => Ending.returned (.int .i64 z)) (i64_w (_ * 2 ^ min j.toNat 64)).symm, pw_below_drewN HB.out _⟩)


def impl_SmallBack.f (k : Nat) (a0 : Int) (a1 : Int) (a2 : Int) : Option (Int) := (impl_within.f a0 (-5000) 5000).bind fun t216 => (if t216 = true then ((impl_ScaleOf.f k a1 a2).bind fun t217 => (some (wrap64 (a0 * t217)))) else (some 0))
theorem impl_SmallBack.mono : ∀ a0 a1 a2 k, LeO (impl_SmallBack.f k a0 a1 a2) (impl_SmallBack.f (k + 1) a0 a1 a2) := by
 intro a0 a1 a2 k
 unfold impl_SmallBack.f
 repeat' first
   | (with_reducible exact impl_ScaleOf.mono _ _ _)
   | (with_reducible exact LeO.refl _)
   | (with_reducible exact LeO.none _)
   | (with_reducible refine LeO.ite ?_ ?_)
   | (with_reducible refine LeO.bind ?_ (fun _ => ?_))
   | exact impl_ScaleOf.mono _ _ _
   | exact LeO.none _
   | refine LeO.ite ?_ ?_
   | refine LeO.bind ?_ (fun _ => ?_)
set_option maxHeartbeats 8000000 in
set_option maxRecDepth 100000 in
theorem impl_SmallBack.calls (k : Nat) (a0 : Int) (a1 : Int) (a2 : Int) (r : Int) (w : World) (h : impl_SmallBack.f k a0 a1 a2 = some r) :
  Calls Try.prog 110 #[.int .i64 a0, .int .i64 a1, .int .i64 a2] w fun e w' => e = .returned (.int .i64 r) ∧ Below w.heap.size w w' := by
 have HB := Aside0.mk (Below.refl w.heap.size w)
 have H : ((impl_within.f a0 (-5000) 5000).bind fun t216 => (if t216 = true then ((impl_ScaleOf.f k a1 a2).bind fun t217 => (some (wrap64 (a0 * t217)))) else (some 0))) = some r := h
 clear h
 replace H := Option.bind_eq_some_iff.mp H
 obtain ⟨t216, A40, H⟩ := H
 replace H : (if t216 = true then ((impl_ScaleOf.f k a1 a2).bind fun t217 => (some (wrap64 (a0 * t217)))) else (some 0)) = some r := H
 have A4 := Aside0.mk A40
 clear A40
 by_cases c5 : t216 = true
 ·subst c5
  have H1 : ((impl_ScaleOf.f k a1 a2).bind fun t217 => (some (wrap64 (a0 * t217)))) = some r := by rw [if_pos rfl] at H; exact H
  clear H
  have H := H1
  clear H1
  replace H := Option.bind_eq_some_iff.mp H
  obtain ⟨t217, A60, H⟩ := H
  replace H : (some (wrap64 (a0 * t217))) = some r := H
  have A6 := Aside0.mk A60
  clear A60
  obtain rfl := Option.some.inj H
  go_enter Try.func110, Try.ntmps110
  go_wp2_with (first | ((with_reducible refine gate_callee (f := 80) rfl ?_); refine goesL_ (some 8) rfl rfl Try.func80 (by kernel_rfl) rfl #[.int .i64 a0, .int .i64 (-5000), .int .i64 5000] rfl (by (try simp only [List.map_toArray, List.map_cons, List.map_nil]); first | done | rfl | (simp only [List.length_drop, List.length_take]; rfl)) ?_; (with_reducible refine (impl_within.calls a0 (-5000) 5000 true _ A4.out).mono ?_); rintro e w' ⟨rfl, ⟨nd, rfl⟩⟩; refine ⟨_, rfl, ?_⟩) | ((with_reducible refine gate_callee (f := 143) rfl ?_); refine goesL_ (some 13) rfl rfl Try.func143 (by kernel_rfl) rfl #[.int .i64 a1, .int .i64 a2] rfl (by (try simp only [List.map_toArray, List.map_cons, List.map_nil]); first | done | rfl | (simp only [List.length_drop, List.length_take]; rfl)) ?_; (with_reducible refine (impl_ScaleOf.calls k a1 a2 t217 _ A6.out).mono ?_); rintro e w7 ⟨rfl, hb⟩; refine ⟨_, rfl, ?_⟩; have n0_ := Aside0.mk (below_step (by repeat (first | (with_reducible first | exact HB.out | apply below_alloc | apply pw_below_drewN | apply below_drew1) | exact HB.out)) hb); clear HB; have HB := n0_; clear n0_; (try clear hb); (try clear hb2); (try clear hk); (try clear hi)))
  go_ret
  exact ⟨by first | rfl | (simp [errW_none, errW_some] <;> rfl) | (simp [*, errW_none, errW_some] <;> rfl), by repeat (first | (with_reducible first | exact HB.out | apply below_alloc | apply pw_below_drewN | apply below_drew1) | exact HB.out)⟩
 ·replace c5 := Bool.eq_false_iff.mpr c5
  subst c5
  have H1 : (some 0) = some r := by rw [if_neg (show ¬ (false = true) by decide)] at H; exact H
  clear H
  have H := H1
  clear H1
  obtain rfl := Option.some.inj H
  go_enter Try.func110, Try.ntmps110
  go_wp2_with (first | ((with_reducible refine gate_callee (f := 80) rfl ?_); refine goesL_ (some 8) rfl rfl Try.func80 (by kernel_rfl) rfl #[.int .i64 a0, .int .i64 (-5000), .int .i64 5000] rfl (by (try simp only [List.map_toArray, List.map_cons, List.map_nil]); first | done | rfl | (simp only [List.length_drop, List.length_take]; rfl)) ?_; (with_reducible refine (impl_within.calls a0 (-5000) 5000 false _ A4.out).mono ?_); rintro e w' ⟨rfl, ⟨nd, rfl⟩⟩; refine ⟨_, rfl, ?_⟩))
  go_ret
  exact ⟨by first | rfl | (simp [errW_none, errW_some] <;> rfl) | (simp [*, errW_none, errW_some] <;> rfl), by repeat (first | (with_reducible first | exact HB.out | apply below_alloc | apply pw_below_drewN | apply below_drew1) | exact HB.out)⟩

end Go.Proofs.Ytlmlkoalicjlhaa.QFnLevelRows
