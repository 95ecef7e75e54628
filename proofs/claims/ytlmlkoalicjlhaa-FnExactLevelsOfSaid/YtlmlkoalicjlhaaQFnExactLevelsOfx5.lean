/- What the law reaches, as plain functions, each with the proof that its call comes to its answer: written by a program for this claim. -/
import Derived.Test.YtlmlkoalicjlhaaQFnExactLevelsOfx0
import Derived.Test.YtlmlkoalicjlhaaQFnExactLevelsOfx1
import Derived.Test.YtlmlkoalicjlhaaQFnExactLevelsOfx4
namespace Go.Proofs.Ytlmlkoalicjlhaa.QFnExactLevelsOf
open Go.RowKit Go.Proofs.YtlmlkoalicjlhaaW.PrintWords Go.Proofs.YtlmlkoalicjlhaaW.PrintLast Go.Proofs.YtlmlkoalicjlhaaW.PrintMore Go.Proofs.YtlmlkoalicjlhaaV
attribute [local go_sem] max2_int min2_int max_two min_two max_three min_three max_four min_four   -- for this text's walks alone
set_option linter.unusedVariables false
set_option linter.unusedSimpArgs false

def spec_l08Sized.f (a0 : Int) : Option (Int) := if a0 < 0 then (some (wrap64 (-a0))) else (some a0)
set_option maxHeartbeats 8000000 in
set_option maxRecDepth 100000 in
theorem spec_l08Sized.calls (a0 : Int) (r : Int) (w : World) (h : spec_l08Sized.f a0 = some r) :
  Calls Try.prog 136 #[.int .i64 a0] w fun e w' => e = .returned (.int .i64 r) ∧ Drawn0 w w' := by
 have H : (if a0 < 0 then (some (wrap64 (-a0))) else (some a0)) = some r := h
 clear h
 by_cases c2 : a0 < 0
 ·rw [if_pos c2] at H
  have c2b0 : decide (a0 < 0) = true := decide_eq_true c2
  clear c2
  obtain rfl := Option.some.inj H
  go_enter Try.func136, Try.ntmps136
  go_wp2
  go_ret
  exact ⟨by first | rfl | (simp; done) | (simp [*]; done), by repeat (first | exact Drawn0.refl _ | apply Drawn0.step)⟩
 ·rw [if_neg c2] at H
  have c2b0 : decide (a0 < 0) = false := decide_eq_false c2
  clear c2
  obtain rfl := Option.some.inj H
  go_enter Try.func136, Try.ntmps136
  go_wp2
  go_ret
  exact ⟨by first | rfl | (simp; done) | (simp [*]; done), by repeat (first | exact Drawn0.refl _ | apply Drawn0.step)⟩

def spec_LargeLevel.j0 : Nat → Int → Int → Bool → Option (Int)
 | 0, _, _, _ => none
 | k + 1, x0, x1, x13 => if x13 = true then (some 0) else ((spec_StepOf.f k x1).bind fun t189 => ((spec_l08Sized.f x0).bind fun t190 => (if t189 = 0 then (none) else ((spec_l08Signed.f x0 (wrap64 (Int.tdiv (wrap64 (t190 + (wrap64 (Int.tdiv t189 2)))) t189))).bind fun t191 => (some t191)))))
def spec_LargeLevel.f (k : Nat) (a0 : Int) (a1 : Int) : Option (Int) := (spec_l01In.f a0 (-20000) 20000).bind fun t187 => (if t187 = true then ((spec_l01In.f a1 0 40).bind fun t188 => (spec_LargeLevel.j0 k a0 a1 (!t188))) else (spec_LargeLevel.j0 k a0 a1 true))
theorem spec_LargeLevel.mono_l : ∀ k, (∀ y0 y1 y2, LeO (spec_LargeLevel.j0 k y0 y1 y2) (spec_LargeLevel.j0 (k + 1) y0 y1 y2))
 | 0 => fun _ _ _ r h => by simp [spec_LargeLevel.j0] at h
 | k + 1 => by
  have ih0 := spec_LargeLevel.mono_l k
  ·intro y0 y1 y2
   unfold spec_LargeLevel.j0
   repeat' first
   | (with_reducible exact ih0 _ _ _)
   | (with_reducible exact spec_StepOf.mono _ _)
   | (with_reducible exact LeO.refl _)
   | (with_reducible exact LeO.none _)
   | (with_reducible refine LeO.ite ?_ ?_)
   | (with_reducible refine LeO.bind ?_ (fun _ => ?_))
   | exact ih0 _ _ _
   | exact spec_StepOf.mono _ _
   | exact LeO.none _
   | refine LeO.ite ?_ ?_
   | refine LeO.bind ?_ (fun _ => ?_)
theorem spec_LargeLevel.mono : ∀ a0 a1 k, LeO (spec_LargeLevel.f k a0 a1) (spec_LargeLevel.f (k + 1) a0 a1) := by
 intro a0 a1 k
 have ih0 := spec_LargeLevel.mono_l k
 unfold spec_LargeLevel.f
 repeat' first
   | (with_reducible exact ih0 _ _ _)
   | (with_reducible exact spec_StepOf.mono _ _)
   | (with_reducible exact LeO.refl _)
   | (with_reducible exact LeO.none _)
   | (with_reducible refine LeO.ite ?_ ?_)
   | (with_reducible refine LeO.bind ?_ (fun _ => ?_))
   | exact ih0 _ _ _
   | exact spec_StepOf.mono _ _
   | exact LeO.none _
   | refine LeO.ite ?_ ?_
   | refine LeO.bind ?_ (fun _ => ?_)
set_option maxHeartbeats 8000000 in
set_option maxRecDepth 100000 in
theorem spec_LargeLevel.calls (k : Nat) (a0 : Int) (a1 : Int) (r : Int) (w : World) (h : spec_LargeLevel.f k a0 a1 = some r) :
  Calls Try.prog 97 #[.int .i64 a0, .int .i64 a1] w fun e w' => e = .returned (.int .i64 r) ∧ Drawn0 w w' := by
 have H : ((spec_l01In.f a0 (-20000) 20000).bind fun t187 => (if t187 = true then ((spec_l01In.f a1 0 40).bind fun t188 => (spec_LargeLevel.j0 k a0 a1 (!t188))) else (spec_LargeLevel.j0 k a0 a1 true))) = some r := h
 clear h
 have HC3 := Aside0.mk H
 clear H
 go_enter Try.func97, Try.ntmps97
 go_upto_region 1 with (fail)
 go_cut [13] (fun v13 wc => ∃ (kq : Nat) (x13_2 : Bool), v13 = .bool x13_2 ∧ Aside0 (spec_LargeLevel.j0 kq a0 a1 x13_2 = some r) ∧ Aside0 (kq ≤ k) ∧ Drawn0 w wc)
 case first =>
  have H := HC3.out
  clear HC3
  replace H := Option.bind_eq_some_iff.mp H
  obtain ⟨t187, A40, H⟩ := H
  replace H : (if t187 = true then ((spec_l01In.f a1 0 40).bind fun t188 => (spec_LargeLevel.j0 k a0 a1 (!t188))) else (spec_LargeLevel.j0 k a0 a1 true)) = some r := H
  have A4 := Aside0.mk A40
  clear A40
  by_cases c5 : t187 = true
  ·subst c5
   have H1 : ((spec_l01In.f a1 0 40).bind fun t188 => (spec_LargeLevel.j0 k a0 a1 (!t188))) = some r := by rw [if_pos rfl] at H; exact H
   clear H
   have H := H1
   clear H1
   replace H := Option.bind_eq_some_iff.mp H
   obtain ⟨t188, A60, H⟩ := H
   replace H : (spec_LargeLevel.j0 k a0 a1 (!t188)) = some r := H
   have A6 := Aside0.mk A60
   clear A60
   have H' := Aside0.mk H
   clear H
   go_wp2_with (first | ((with_reducible refine gate_callee (f := 87) rfl ?_); refine goesL_ (some 7) rfl rfl Try.func87 (by kernel_rfl) rfl #[.int .i64 a0, .int .i64 (-20000), .int .i64 20000] rfl (by (try simp only [List.map_toArray, List.map_cons, List.map_nil]); first | done | rfl | (simp only [List.length_drop, List.length_take]; rfl)) ?_; (with_reducible refine (spec_l01In.calls a0 (-20000) 20000 true _ A4.out).mono ?_); rintro e w' ⟨rfl, ⟨nd, rfl⟩⟩; refine ⟨_, rfl, ?_⟩) | (go_at_call 87; (with_reducible refine (spec_l01In.calls a1 0 40 t188 _ A6.out).mono ?_); rintro e w' ⟨rfl, ⟨nd, rfl⟩⟩))
   go_meet
   case rel => exact ⟨_, (!t188), (by first | rfl | (simp; done) | (simp [*]; done)), H', ⟨by first | omega | exact Nat.le_refl _⟩, by repeat (first | exact Drawn0.refl _ | apply Drawn0.step)⟩
  ·replace c5 := Bool.eq_false_iff.mpr c5
   subst c5
   have H1 : (spec_LargeLevel.j0 k a0 a1 true) = some r := by rw [if_neg (show ¬ (false = true) by decide)] at H; exact H
   clear H
   have H := H1
   clear H1
   have H' := Aside0.mk H
   clear H
   go_wp2_with (first | ((with_reducible refine gate_callee (f := 87) rfl ?_); refine goesL_ (some 7) rfl rfl Try.func87 (by kernel_rfl) rfl #[.int .i64 a0, .int .i64 (-20000), .int .i64 20000] rfl (by (try simp only [List.map_toArray, List.map_cons, List.map_nil]); first | done | rfl | (simp only [List.length_drop, List.length_take]; rfl)) ?_; (with_reducible refine (spec_l01In.calls a0 (-20000) 20000 false _ A4.out).mono ?_); rintro e w' ⟨rfl, ⟨nd, rfl⟩⟩; refine ⟨_, rfl, ?_⟩))
   go_meet
   case rel => exact ⟨_, (true), (by first | rfl | (simp; done) | (simp [*]; done)), H', ⟨by first | omega | exact Nat.le_refl _⟩, by repeat (first | exact Drawn0.refl _ | apply Drawn0.step)⟩
 case rest =>
  clear HC3
  try clear p2
  try clear c5
  obtain ⟨kq, x13_2, rfl, HA, HJ2, ⟨mc2, rfl⟩⟩ := hcut
  cases kq with
  | zero => exact absurd HA.out (by simp [spec_LargeLevel.j0])
  | succ kj2 =>
   have H := HA.out
   clear HA
   simp only [spec_LargeLevel.j0] at H
   by_cases c7 : x13_2 = true
   ·subst c7
    have H1 : (some 0) = some r := by rw [if_pos rfl] at H; exact H
    clear H
    have H := H1
    clear H1
    obtain rfl := Option.some.inj H
    go_wp2
    go_ret
    exact ⟨by first | rfl | (simp; done) | (simp [*]; done), by repeat (first | exact Drawn0.refl _ | apply Drawn0.step)⟩
   ·replace c7 := Bool.eq_false_iff.mpr c7
    subst c7
    have H1 : ((spec_StepOf.f kj2 a1).bind fun t189 => ((spec_l08Sized.f a0).bind fun t190 => (if t189 = 0 then (none) else ((spec_l08Signed.f a0 (wrap64 (Int.tdiv (wrap64 (t190 + (wrap64 (Int.tdiv t189 2)))) t189))).bind fun t191 => (some t191))))) = some r := by rw [if_neg (show ¬ (false = true) by decide)] at H; exact H
    clear H
    have H := H1
    clear H1
    replace H := Option.bind_eq_some_iff.mp H
    obtain ⟨t189, A80, H⟩ := H
    replace H : ((spec_l08Sized.f a0).bind fun t190 => (if t189 = 0 then (none) else ((spec_l08Signed.f a0 (wrap64 (Int.tdiv (wrap64 (t190 + (wrap64 (Int.tdiv t189 2)))) t189))).bind fun t191 => (some t191)))) = some r := H
    have A8 := Aside0.mk A80
    clear A80
    replace H := Option.bind_eq_some_iff.mp H
    obtain ⟨t190, A90, H⟩ := H
    replace H : (if t189 = 0 then (none) else ((spec_l08Signed.f a0 (wrap64 (Int.tdiv (wrap64 (t190 + (wrap64 (Int.tdiv t189 2)))) t189))).bind fun t191 => (some t191))) = some r := H
    have A9 := Aside0.mk A90
    clear A90
    by_cases c10 : t189 = 0
    ·rw [if_pos c10] at H
     exact absurd H (by simp)
    ·rw [if_neg c10] at H
     have c10b0 : (t189 == 0) = false := beq_eq_false_iff_ne.mpr c10
     have c10b1 : (t189 != 0) = true := bne_iff_ne.mpr c10
     replace H := Option.bind_eq_some_iff.mp H
     obtain ⟨t191, A110, H⟩ := H
     replace H : (some t191) = some r := H
     have A11 := Aside0.mk A110
     clear A110
     obtain rfl := Option.some.inj H
     go_wp2_with (first | ((with_reducible refine gate_callee (f := 134) rfl ?_); refine goesL_ (some 15) rfl rfl Try.func134 (by kernel_rfl) rfl #[.int .i64 a1] rfl (by (try simp only [List.map_toArray, List.map_cons, List.map_nil]); first | done | rfl | (simp only [List.length_drop, List.length_take]; rfl)) ?_; (with_reducible refine (spec_StepOf.calls kj2 a1 t189 _ A8.out).mono ?_); rintro e w' ⟨rfl, ⟨nd, rfl⟩⟩; refine ⟨_, rfl, ?_⟩) | ((with_reducible refine gate_callee (f := 136) rfl ?_); refine goesL_ (some 18) rfl rfl Try.func136 (by kernel_rfl) rfl #[.int .i64 a0] rfl (by (try simp only [List.map_toArray, List.map_cons, List.map_nil]); first | done | rfl | (simp only [List.length_drop, List.length_take]; rfl)) ?_; (with_reducible refine (spec_l08Sized.calls a0 t190 _ A9.out).mono ?_); rintro e w' ⟨rfl, ⟨nd, rfl⟩⟩; refine ⟨_, rfl, ?_⟩) | ((with_reducible refine gate_callee (f := 135) rfl ?_); refine goesL_ (some 24) rfl rfl Try.func135 (by kernel_rfl) rfl #[.int .i64 a0, .int .i64 (wrap64 (Int.tdiv (wrap64 (t190 + (wrap64 (Int.tdiv t189 2)))) t189))] rfl (by (try simp only [List.map_toArray, List.map_cons, List.map_nil]); first | done | rfl | (rw [show (wrap64 (Int.tdiv (wrap64 (t190 + (wrap64 (Int.tdiv t189 2)))) t189)) = (Int.tdiv (wrap64 (t190 + (wrap64 (Int.tdiv t189 2)))) t189) from by unfold wrap64; omega]; rfl) | (simp only [List.length_drop, List.length_take]; rfl)) ?_; (with_reducible refine (spec_l08Signed.calls a0 (wrap64 (Int.tdiv (wrap64 (t190 + (wrap64 (Int.tdiv t189 2)))) t189)) t191 _ A11.out).mono ?_); rintro e w' ⟨rfl, ⟨nd, rfl⟩⟩; refine ⟨_, rfl, ?_⟩))
     go_ret
     exact ⟨by first | rfl | (simp; done) | (simp [*]; done), by repeat (first | exact Drawn0.refl _ | apply Drawn0.step)⟩

def spec_l14Quarter.l0 : Nat → List Int → Int → List Int → Int → Option (List Int)
 | 0, _, _, _, _ => none
 | k + 1, x0, x1, x5, x6 => if x6 < 16 then (if 0 ≤ (wrap64 ((wrap64 ((wrap64 (8 * (wrap64 ((wrap64 ((wrap64 (Int.tdiv x1 2)) * 4)) + (wrap64 (Int.tdiv x6 4)))))) + (wrap64 ((Int.tmod x1 2) * 4)))) + (Int.tmod x6 4))) then (if (wrap64 ((wrap64 ((wrap64 (8 * (wrap64 ((wrap64 ((wrap64 (Int.tdiv x1 2)) * 4)) + (wrap64 (Int.tdiv x6 4)))))) + (wrap64 ((Int.tmod x1 2) * 4)))) + (Int.tmod x6 4))) < (x0.length : Int) then (if x5.length < 17592186044416 then (spec_l14Quarter.l0 k x0 x1 (x5 ++ [rd x0 (wrap64 ((wrap64 ((wrap64 (8 * (wrap64 ((wrap64 ((wrap64 (Int.tdiv x1 2)) * 4)) + (wrap64 (Int.tdiv x6 4)))))) + (wrap64 ((Int.tmod x1 2) * 4)))) + (Int.tmod x6 4)))]) (wrap64 (x6 + 1))) else (none)) else (none)) else (none)) else (some x5)
def spec_l14Quarter.f (k : Nat) (l0 : List Int) (a1 : Int) : Option (List Int) := spec_l14Quarter.l0 k l0 a1 (([] : List Int)) 0
theorem spec_l14Quarter.mono_l : ∀ k, (∀ y0 y1 y2 y3, LeO (spec_l14Quarter.l0 k y0 y1 y2 y3) (spec_l14Quarter.l0 (k + 1) y0 y1 y2 y3))
 | 0 => fun _ _ _ _ r h => by simp [spec_l14Quarter.l0] at h
 | k + 1 => by
  have ih0 := spec_l14Quarter.mono_l k
  ·intro y0 y1 y2 y3
   unfold spec_l14Quarter.l0
   repeat' first
   | (with_reducible exact ih0 _ _ _ _)
   | (with_reducible exact LeO.refl _)
   | (with_reducible exact LeO.none _)
   | (with_reducible refine LeO.ite ?_ ?_)
   | (with_reducible refine LeO.bind ?_ (fun _ => ?_))
   | exact ih0 _ _ _ _
   | exact LeO.none _
   | refine LeO.ite ?_ ?_
   | refine LeO.bind ?_ (fun _ => ?_)
theorem spec_l14Quarter.mono : ∀ a0 a1 k, LeO (spec_l14Quarter.f k a0 a1) (spec_l14Quarter.f (k + 1) a0 a1) := by
 intro a0 a1 k
 have ih0 := spec_l14Quarter.mono_l k
 unfold spec_l14Quarter.f
 repeat' first
   | (with_reducible exact ih0 _ _ _ _)
   | (with_reducible exact LeO.refl _)
   | (with_reducible exact LeO.none _)
   | (with_reducible refine LeO.ite ?_ ?_)
   | (with_reducible refine LeO.bind ?_ (fun _ => ?_))
   | exact ih0 _ _ _ _
   | exact LeO.none _
   | refine LeO.ite ?_ ?_
   | refine LeO.bind ?_ (fun _ => ?_)
set_option maxHeartbeats 8000000 in
set_option maxRecDepth 100000 in
theorem spec_l14Quarter.calls (k : Nat) (A0 : Option Addr) (c0 : Nat) (l0 : List Int) (a1 : Int) (r : List Int) (w : World) (hr0 : Kd.C (Kd.int .i64) w A0 l0.length l0) (hc0 : l0.length ≤ c0) (h : spec_l14Quarter.f k l0 a1 = some r) :
  Calls Try.prog 98 #[.slice A0 l0.length c0, .int .i64 a1] w fun e w' => ∃ v0_ : Value, e = .returned (v0_) ∧ Kd.R (Kd.int .i64) 3 w' w.heap.size (fun _ => True) v0_ r ∧ Below w.heap.size w w' := by
 have HR0 := Aside0.mk hr0
 have HC0 := Aside0.mk hc0
 clear hr0 hc0
 have HB := Aside0.mk (Below.refl w.heap.size w)
 have H : (spec_l14Quarter.l0 k l0 a1 (([] : List Int)) 0) = some r := h
 clear h
 obtain ⟨y192, hy192⟩ : ∃ y_ : List Int, y_ = (([] : List Int)) := ⟨_, rfl⟩
 replace H : (spec_l14Quarter.l0 k l0 a1 y192 0) = some r := by first | (rw [hy192]; with_reducible exact H) | (have H2_ := (Option.bind_some _ _).symm.trans H; rw [hy192]; with_reducible exact H2_) | (have H2_ := (Option.bind_some _ _).symm.trans H; with_reducible exact H2_) | with_reducible exact H | (rw [hy192]; exact H) | exact H
 have Ny192 := Aside0.mk hy192
 clear hy192
 have H' := Aside0.mk H
 clear H
 go_enter Try.func98, Try.ntmps98
 go_wp2_with (first | ((with_reducible refine gate_dst (N := 7) rfl ?_); refine Kd.R_lit (Kd.int .i64) _ 3 ?hg (N := 7) ?hd (xs := ([] : List Int)) (inner := []) (ok := fun _ => True) (okp := fun _ => True) ?hr ?hp (fun _ hk => hk) trivial (Below.refl _ _) (Nat.le_refl _) (by simp) ?_; (case hd => rfl); (case hg => rfl); (case hr => first | (go_simp; done) | (go_simp; rfl)); (case hp => exact (Reps.none _ _)); intro v193 w3 ho4 hb hg_ hnew_; clear hg_ hnew_; (first | rw [← Ny192.out] at ho4 | (simp only [Int.reduceToNat] at ho4; rw [← Ny192.out] at ho4)); have n0_ := Aside0.mk (Kd.R_lower ho4 (below_size (by repeat (first | (with_reducible first | exact HB.out | apply below_alloc | apply pw_below_drewN | apply below_drew1) | exact HB.out)))); have n1_ := Aside0.mk (below_step (by repeat (first | (with_reducible first | exact HB.out | apply below_alloc | apply pw_below_drewN | apply below_drew1) | exact HB.out)) hb); clear HB; have HO194 := n0_; have HB := n1_; clear n0_ n1_; clear hb ho4))
 go_loopg [5, 6] k (fun kq v5 v6 w' => ∃ (x5_1 : List Int) (x6_1 : Int), v6 = .int .i64 x6_1 ∧ Aside0 (spec_l14Quarter.l0 kq l0 a1 x5_1 x6_1 = some r) ∧ Aside0 (kq ≤ k) ∧ Aside0 (Kd.R (Kd.int .i64) 3 w' w.heap.size (fun _ => True) v5 x5_1) ∧ Aside0 (Below w.heap.size w w'))
 case atStart => exact ⟨(y192), (0), (by first | rfl | (simp; done) | (simp [*]; done)), H', ⟨Nat.le_refl _⟩, ⟨by (with_reducible repeat (first | apply Kd.R_alloc | apply Kd.R_drewN | apply Kd.R_drew)); exact HO194.out⟩, ⟨by repeat (first | (with_reducible first | exact HB.out | apply below_alloc | apply pw_below_drewN | apply below_drew1) | exact HB.out)⟩⟩
 case round =>
  clear H'
  try clear p2
  obtain ⟨x5_1, x6_1, rfl, HA, HK1, HO_5, HB⟩ := hrel
  cases gk with
  | zero => exact absurd HA.out (by simp [spec_l14Quarter.l0])
  | succ k1 =>
   have H := HA.out
   clear HA
   simp only [spec_l14Quarter.l0] at H
   by_cases c5 : x6_1 < 16
   ·rw [if_pos c5] at H
    have c5b0 : decide (x6_1 < 16) = true := decide_eq_true c5
    clear c5
    obtain ⟨ji6, hji6⟩ : ∃ j_ : Int, (wrap64 ((wrap64 ((wrap64 (8 * (wrap64 ((wrap64 ((wrap64 (Int.tdiv a1 2)) * 4)) + (wrap64 (Int.tdiv x6_1 4)))))) + (wrap64 ((Int.tmod a1 2) * 4)))) + (Int.tmod x6_1 4))) = j_ := ⟨_, rfl⟩
    replace H : (if 0 ≤ (ji6) then (if (ji6) < (l0.length : Int) then (if x5_1.length < 17592186044416 then (spec_l14Quarter.l0 k1 l0 a1 (x5_1 ++ [rd l0 (ji6)]) (wrap64 (x6_1 + 1))) else (none)) else (none)) else (none)) = some r := by first | (rw [hji6] at H; exact H) | (simp only [hji6] at H ⊢; exact H)
    have hji6w : (IntKind.i64.wrap ((wrap64 ((wrap64 (8 * (wrap64 ((wrap64 ((wrap64 (Int.tdiv a1 2)) * 4)) + (wrap64 (Int.tdiv x6_1 4)))))) + (wrap64 ((Int.tmod a1 2) * 4)))) + (Int.tmod x6_1 4))) = ji6 := (i64_w _).trans hji6
    by_cases c7 : 0 ≤ (ji6)
    ·rw [if_pos c7] at H
     have c7b0 : decide (0 ≤ (ji6)) = true := decide_eq_true c7
     clear c7
     by_cases c8 : (ji6) < (l0.length : Int)
     ·rw [if_pos c8] at H
      have c8b0 : decide ((ji6) < (l0.length : Int)) = true := decide_eq_true c8
      clear c8
      by_cases c9 : x5_1.length < 17592186044416
      ·rw [if_pos c9] at H
       have LMc9 := Aside0.mk c9
       clear c9
       obtain ⟨y196, hy196⟩ : ∃ y_ : List Int, y_ = (x5_1 ++ [rd l0 (ji6)]) := ⟨_, rfl⟩
       replace H : (spec_l14Quarter.l0 k1 l0 a1 y196 (wrap64 (x6_1 + 1))) = some r := by first | (rw [hy196]; with_reducible exact H) | (have H2_ := (Option.bind_some _ _).symm.trans H; rw [hy196]; with_reducible exact H2_) | (have H2_ := (Option.bind_some _ _).symm.trans H; with_reducible exact H2_) | with_reducible exact H | (rw [hy196]; exact H) | exact H
       have Ny196 := Aside0.mk hy196
       clear hy196
       have H' := Aside0.mk H
       clear H
       have p195 : 0 ≤ ((ji6) : Int) := of_decide_eq_true (by first | (with_reducible assumption) | assumption)
       have q195 : (ji6) < (l0.length : Int) := of_decide_eq_true (by first | (with_reducible assumption) | assumption)
       obtain ⟨ad195, e195, hx195_0⟩ := Kd.at_int HR0.out (ji6) p195 q195
       cases e195
       replace hx195_0 := (HB.out.cell (World.block_lt_of_cell? w _ hx195_0)).trans hx195_0
       replace p195 := eq_true p195
       replace q195 := eq_true q195
       go_wp2_with (first | ((with_reducible refine gate_builtin (b := .append) (xs := #[.tmp 12, .tmp 30]) rfl ?_); at_builtin; refine Kd.R_append (Kd.int .i64) (w0 := w) w.heap.size rfl (.tmp 12) (.tmp 30) 24 3 (.int .i64 0) 8 rfl Try.underlying24 info3 rfl (by decide) (by omega) u5 x5_1 (rd l0 (ji6)) [.int .i64 (rd l0 (ji6))] (fun _ => True) (fun _ => False) rfl rfl ?aP (fun _ hk => hk.elim) ?aF ?aO ?aB ?aS ?aL ?_; (case aP => exact rfl); (case aB => exact (by repeat (first | (with_reducible first | exact HB.out | apply below_alloc | apply pw_below_drewN | apply below_drew1) | exact HB.out))); (case aF => exact (fun _ _ => trivial)); (case aO => exact (by (with_reducible repeat (first | apply Kd.R_alloc | apply Kd.R_drewN | apply Kd.R_drew)); exact HO_5.out)); (case aS => exact (below_size (by repeat (first | (with_reducible first | exact HB.out | apply below_alloc | apply pw_below_drewN | apply below_drew1) | exact HB.out)))); (case aL => have := LMc9.out; omega); intro v197 w10 ho hb hg hat; rw [← Ny196.out] at ho; have n0_ := Aside0.mk (hb); have n1_ := Aside0.mk (ho); clear HB; clear HO_5; have HB := n0_; have HO198 := n1_; clear n0_ n1_; clear ho hb hg hat))
       go_roundg k1
       case measure => have := HK1.out; omega
       case rel => exact ⟨(y196), (wrap64 (x6_1 + 1)), (by first | rfl | (simp; done) | (simp [*]; done)), H', ⟨by have := HK1.out; omega⟩, ⟨by (with_reducible repeat (first | apply Kd.R_alloc | apply Kd.R_drewN | apply Kd.R_drew)); exact HO198.out⟩, ⟨by repeat (first | (with_reducible first | exact HB.out | apply below_alloc | apply pw_below_drewN | apply below_drew1) | exact HB.out)⟩⟩
      ·rw [if_neg c9] at H
       exact absurd H (by simp)
     ·rw [if_neg c8] at H
      exact absurd H (by simp)
    ·rw [if_neg c7] at H
     exact absurd H (by simp)
   ·rw [if_neg c5] at H
    have c5b0 : decide (x6_1 < 16) = false := decide_eq_false c5
    clear c5
    obtain rfl := Option.some.inj H
    go_wp2
    go_ret
    exact ⟨_, by first | rfl | (simp [errW_none, errW_some] <;> rfl) | (simp [*, errW_none, errW_some] <;> rfl), by (with_reducible repeat (first | apply Kd.R_alloc | apply Kd.R_drewN | apply Kd.R_drew)); exact HO_5.out, by repeat (first | (with_reducible first | exact HB.out | apply below_alloc | apply pw_below_drewN | apply below_drew1) | exact HB.out)⟩

def spec_KindOf.j0 : Nat → Int → Int → Bool → Option (Int)
 | 0, _, _, _ => none
 | k + 1, x3, x4, x19 => if x19 = true then (some 0) else (if x3 = 1 then (if x4 = 1 then (some 1) else (some 2)) else (some 2))
def spec_KindOf.f (k : Nat) (a0 : Int) : Option (Int) := (spec_l01In.f a0 0 15).bind fun t199 => (if t199 = true then (if (Int.tmod (wrap64 (Int.tdiv a0 4)) 2) = 0 then (spec_KindOf.j0 k (Int.tmod (wrap64 (Int.tdiv a0 4)) 2) (Int.tmod (Int.tmod a0 4) 2) ((Int.tmod (Int.tmod a0 4) 2) == 0)) else (spec_KindOf.j0 k (Int.tmod (wrap64 (Int.tdiv a0 4)) 2) (Int.tmod (Int.tmod a0 4) 2) false)) else (some (-1)))
theorem spec_KindOf.mono_l : ∀ k, (∀ y0 y1 y2, LeO (spec_KindOf.j0 k y0 y1 y2) (spec_KindOf.j0 (k + 1) y0 y1 y2))
 | 0 => fun _ _ _ r h => by simp [spec_KindOf.j0] at h
 | k + 1 => by
  have ih0 := spec_KindOf.mono_l k
  ·intro y0 y1 y2
   unfold spec_KindOf.j0
   repeat' first
   | (with_reducible exact ih0 _ _ _)
   | (with_reducible exact LeO.refl _)
   | (with_reducible exact LeO.none _)
   | (with_reducible refine LeO.ite ?_ ?_)
   | (with_reducible refine LeO.bind ?_ (fun _ => ?_))
   | exact ih0 _ _ _
   | exact LeO.none _
   | refine LeO.ite ?_ ?_
   | refine LeO.bind ?_ (fun _ => ?_)
theorem spec_KindOf.mono : ∀ a0 k, LeO (spec_KindOf.f k a0) (spec_KindOf.f (k + 1) a0) := by
 intro a0 k
 have ih0 := spec_KindOf.mono_l k
 unfold spec_KindOf.f
 repeat' first
   | (with_reducible exact ih0 _ _ _)
   | (with_reducible exact LeO.refl _)
   | (with_reducible exact LeO.none _)
   | (with_reducible refine LeO.ite ?_ ?_)
   | (with_reducible refine LeO.bind ?_ (fun _ => ?_))
   | exact ih0 _ _ _
   | exact LeO.none _
   | refine LeO.ite ?_ ?_
   | refine LeO.bind ?_ (fun _ => ?_)
set_option maxHeartbeats 8000000 in
set_option maxRecDepth 100000 in
theorem spec_KindOf.calls (k : Nat) (a0 : Int) (r : Int) (w : World) (h : spec_KindOf.f k a0 = some r) :
  Calls Try.prog 155 #[.int .i64 a0] w fun e w' => e = .returned (.int .i64 r) ∧ Drawn0 w w' := by
 have H : ((spec_l01In.f a0 0 15).bind fun t199 => (if t199 = true then (if (Int.tmod (wrap64 (Int.tdiv a0 4)) 2) = 0 then (spec_KindOf.j0 k (Int.tmod (wrap64 (Int.tdiv a0 4)) 2) (Int.tmod (Int.tmod a0 4) 2) ((Int.tmod (Int.tmod a0 4) 2) == 0)) else (spec_KindOf.j0 k (Int.tmod (wrap64 (Int.tdiv a0 4)) 2) (Int.tmod (Int.tmod a0 4) 2) false)) else (some (-1)))) = some r := h
 clear h
 replace H := Option.bind_eq_some_iff.mp H
 obtain ⟨t199, A20, H⟩ := H
 replace H : (if t199 = true then (if (Int.tmod (wrap64 (Int.tdiv a0 4)) 2) = 0 then (spec_KindOf.j0 k (Int.tmod (wrap64 (Int.tdiv a0 4)) 2) (Int.tmod (Int.tmod a0 4) 2) ((Int.tmod (Int.tmod a0 4) 2) == 0)) else (spec_KindOf.j0 k (Int.tmod (wrap64 (Int.tdiv a0 4)) 2) (Int.tmod (Int.tmod a0 4) 2) false)) else (some (-1))) = some r := H
 have A2 := Aside0.mk A20
 clear A20
 by_cases c3 : t199 = true
 ·subst c3
  have H1 : (if (Int.tmod (wrap64 (Int.tdiv a0 4)) 2) = 0 then (spec_KindOf.j0 k (Int.tmod (wrap64 (Int.tdiv a0 4)) 2) (Int.tmod (Int.tmod a0 4) 2) ((Int.tmod (Int.tmod a0 4) 2) == 0)) else (spec_KindOf.j0 k (Int.tmod (wrap64 (Int.tdiv a0 4)) 2) (Int.tmod (Int.tmod a0 4) 2) false)) = some r := by rw [if_pos rfl] at H; exact H
  clear H
  have H := H1
  clear H1
  have HC4 := Aside0.mk H
  clear H
  go_enter Try.func155, Try.ntmps155
  go_upto_region 5 with (first | ((with_reducible refine gate_callee (f := 87) rfl ?_); refine goesL_ (some 6) rfl rfl Try.func87 (by kernel_rfl) rfl #[.int .i64 a0, .int .i64 0, .int .i64 15] rfl (by (try simp only [List.map_toArray, List.map_cons, List.map_nil]); first | done | rfl | (simp only [List.length_drop, List.length_take]; rfl)) ?_; (with_reducible refine (spec_l01In.calls a0 0 15 true _ A2.out).mono ?_); rintro e w' ⟨rfl, ⟨nd, rfl⟩⟩; refine ⟨_, rfl, ?_⟩))
  (try simp only [Act.put, List.setIfInBounds_toArray, List.set_cons_zero, List.set_cons_succ])
  go_cut [19] (fun v19 wc => ∃ (kq : Nat) (x19_3 : Bool), v19 = .bool x19_3 ∧ Aside0 (spec_KindOf.j0 kq (Int.tmod (wrap64 (Int.tdiv a0 4)) 2) (Int.tmod (Int.tmod a0 4) 2) x19_3 = some r) ∧ Aside0 (kq ≤ k) ∧ Drawn0 w wc)
  case first =>
   have H := HC4.out
   clear HC4
   by_cases c5 : (Int.tmod (wrap64 (Int.tdiv a0 4)) 2) = 0
   ·rw [if_pos c5] at H
    have c5b0 : ((Int.tmod (wrap64 (Int.tdiv a0 4)) 2) == 0) = true := beq_iff_eq.mpr c5
    have c5b1 : ((Int.tmod (wrap64 (Int.tdiv a0 4)) 2) != 0) = false := bne_eq_false_iff_eq.mpr c5
    clear c5
    (first | rw [c5b0] | (simp only [i64_w, i32_w]; rw [c5b0]) | skip)
    have H' := Aside0.mk H
    clear H
    go_wp2
    go_meet
    case rel => exact ⟨_, (((Int.tmod (Int.tmod a0 4) 2) == 0)), (by first | rfl | (simp; done) | (simp [*]; done)), H', ⟨by first | omega | exact Nat.le_refl _⟩, by repeat (first | exact Drawn0.refl _ | apply Drawn0.step)⟩
   ·rw [if_neg c5] at H
    have c5b0 : ((Int.tmod (wrap64 (Int.tdiv a0 4)) 2) == 0) = false := beq_eq_false_iff_ne.mpr c5
    have c5b1 : ((Int.tmod (wrap64 (Int.tdiv a0 4)) 2) != 0) = true := bne_iff_ne.mpr c5
    (first | rw [c5b0] | (simp only [i64_w, i32_w]; rw [c5b0]) | skip)
    have H' := Aside0.mk H
    clear H
    go_wp2
    go_meet
    case rel => exact ⟨_, (false), (by first | rfl | (simp; done) | (simp [*]; done)), H', ⟨by first | omega | exact Nat.le_refl _⟩, by repeat (first | exact Drawn0.refl _ | apply Drawn0.step)⟩
  case rest =>
   clear HC4
   try clear c1
   try clear p2
   try clear c3
   try clear c5
   try clear c5b0
   try clear c5b1
   obtain ⟨kq, x19_3, rfl, HA, HJ3, ⟨mc3, rfl⟩⟩ := hcut
   cases kq with
   | zero => exact absurd HA.out (by simp [spec_KindOf.j0])
   | succ kj3 =>
    have H := HA.out
    clear HA
    simp only [spec_KindOf.j0] at H
    by_cases c6 : x19_3 = true
    ·subst c6
     have H1 : (some 0) = some r := by rw [if_pos rfl] at H; exact H
     clear H
     have H := H1
     clear H1
     obtain rfl := Option.some.inj H
     go_wp2
     go_ret
     exact ⟨by first | rfl | (simp; done) | (simp [*]; done), by repeat (first | exact Drawn0.refl _ | apply Drawn0.step)⟩
    ·replace c6 := Bool.eq_false_iff.mpr c6
     subst c6
     have H1 : (if (Int.tmod (wrap64 (Int.tdiv a0 4)) 2) = 1 then (if (Int.tmod (Int.tmod a0 4) 2) = 1 then (some 1) else (some 2)) else (some 2)) = some r := by rw [if_neg (show ¬ (false = true) by decide)] at H; exact H
     clear H
     have H := H1
     clear H1
     by_cases c7 : (Int.tmod (wrap64 (Int.tdiv a0 4)) 2) = 1
     ·rw [if_pos c7] at H
      have c7b0 : ((Int.tmod (wrap64 (Int.tdiv a0 4)) 2) == 1) = true := beq_iff_eq.mpr c7
      have c7b1 : ((Int.tmod (wrap64 (Int.tdiv a0 4)) 2) != 1) = false := bne_eq_false_iff_eq.mpr c7
      clear c7
      by_cases c8 : (Int.tmod (Int.tmod a0 4) 2) = 1
      ·rw [if_pos c8] at H
       have c8b0 : ((Int.tmod (Int.tmod a0 4) 2) == 1) = true := beq_iff_eq.mpr c8
       have c8b1 : ((Int.tmod (Int.tmod a0 4) 2) != 1) = false := bne_eq_false_iff_eq.mpr c8
       (try (have c8b0n := c8b0; simp only [tmod42] at c8b0n))
       (try (have c8b1n := c8b1; simp only [tmod42] at c8b1n))
       clear c8
       obtain rfl := Option.some.inj H
       go_wp2
       go_ret
       exact ⟨by first | rfl | (simp; done) | (simp [*]; done), by repeat (first | exact Drawn0.refl _ | apply Drawn0.step)⟩
      ·rw [if_neg c8] at H
       have c8b0 : ((Int.tmod (Int.tmod a0 4) 2) == 1) = false := beq_eq_false_iff_ne.mpr c8
       have c8b1 : ((Int.tmod (Int.tmod a0 4) 2) != 1) = true := bne_iff_ne.mpr c8
       (try (have c8b0n := c8b0; simp only [tmod42] at c8b0n))
       (try (have c8b1n := c8b1; simp only [tmod42] at c8b1n))
       obtain rfl := Option.some.inj H
       go_wp2
       go_ret
       exact ⟨by first | rfl | (simp; done) | (simp [*]; done), by repeat (first | exact Drawn0.refl _ | apply Drawn0.step)⟩
     ·rw [if_neg c7] at H
      have c7b0 : ((Int.tmod (wrap64 (Int.tdiv a0 4)) 2) == 1) = false := beq_eq_false_iff_ne.mpr c7
      have c7b1 : ((Int.tmod (wrap64 (Int.tdiv a0 4)) 2) != 1) = true := bne_iff_ne.mpr c7
      obtain rfl := Option.some.inj H
      go_wp2
      go_ret
      exact ⟨by first | rfl | (simp; done) | (simp [*]; done), by repeat (first | exact Drawn0.refl _ | apply Drawn0.step)⟩
 ·replace c3 := Bool.eq_false_iff.mpr c3
  subst c3
  have H1 : (some (-1)) = some r := by rw [if_neg (show ¬ (false = true) by decide)] at H; exact H
  clear H
  have H := H1
  clear H1
  obtain rfl := Option.some.inj H
  go_enter Try.func155, Try.ntmps155
  go_wp2_with (first | ((with_reducible refine gate_callee (f := 87) rfl ?_); refine goesL_ (some 6) rfl rfl Try.func87 (by kernel_rfl) rfl #[.int .i64 a0, .int .i64 0, .int .i64 15] rfl (by (try simp only [List.map_toArray, List.map_cons, List.map_nil]); first | done | rfl | (simp only [List.length_drop, List.length_take]; rfl)) ?_; (with_reducible refine (spec_l01In.calls a0 0 15 false _ A2.out).mono ?_); rintro e w' ⟨rfl, ⟨nd, rfl⟩⟩; refine ⟨_, rfl, ?_⟩))
  go_ret
  exact ⟨by first | rfl | (simp; done) | (simp [*]; done), by repeat (first | exact Drawn0.refl _ | apply Drawn0.step)⟩

def spec_l08Pick.f (a0 : Int) (a1 : Int) (a2 : Int) (a3 : Int) : Option (Int) := if a0 = 0 then (some a1) else (if a0 = 1 then (some a2) else (some a3))
set_option maxHeartbeats 8000000 in
set_option maxRecDepth 100000 in
theorem spec_l08Pick.calls (a0 : Int) (a1 : Int) (a2 : Int) (a3 : Int) (r : Int) (w : World) (h : spec_l08Pick.f a0 a1 a2 a3 = some r) :
  Calls Try.prog 156 #[.int .i64 a0, .int .i64 a1, .int .i64 a2, .int .i64 a3] w fun e w' => e = .returned (.int .i64 r) ∧ Drawn0 w w' := by
 have H : (if a0 = 0 then (some a1) else (if a0 = 1 then (some a2) else (some a3))) = some r := h
 clear h
 by_cases c5 : a0 = 0
 ·rw [if_pos c5] at H
  have c5b0 : (a0 == 0) = true := beq_iff_eq.mpr c5
  have c5b1 : (a0 != 0) = false := bne_eq_false_iff_eq.mpr c5
  clear c5
  obtain rfl := Option.some.inj H
  go_enter Try.func156, Try.ntmps156
  go_wp2
  go_ret
  exact ⟨by first | rfl | (simp; done) | (simp [*]; done), by repeat (first | exact Drawn0.refl _ | apply Drawn0.step)⟩
 ·rw [if_neg c5] at H
  have c5b0 : (a0 == 0) = false := beq_eq_false_iff_ne.mpr c5
  have c5b1 : (a0 != 0) = true := bne_iff_ne.mpr c5
  by_cases c6 : a0 = 1
  ·rw [if_pos c6] at H
   have c6b0 : (a0 == 1) = true := beq_iff_eq.mpr c6
   have c6b1 : (a0 != 1) = false := bne_eq_false_iff_eq.mpr c6
   clear c6
   obtain rfl := Option.some.inj H
   go_enter Try.func156, Try.ntmps156
   go_wp2
   go_ret
   exact ⟨by first | rfl | (simp; done) | (simp [*]; done), by repeat (first | exact Drawn0.refl _ | apply Drawn0.step)⟩
  ·rw [if_neg c6] at H
   have c6b0 : (a0 == 1) = false := beq_eq_false_iff_ne.mpr c6
   have c6b1 : (a0 != 1) = true := bne_iff_ne.mpr c6
   obtain rfl := Option.some.inj H
   go_enter Try.func156, Try.ntmps156
   go_wp2
   go_ret
   exact ⟨by first | rfl | (simp; done) | (simp [*]; done), by repeat (first | exact Drawn0.refl _ | apply Drawn0.step)⟩

def spec_ShareOf.j0 : Nat → Int → Int → Bool → Option (Int)
 | 0, _, _, _ => none
 | k + 1, x0, x5, x14 => if x14 = true then (some 0) else (if (Int.tmod x0 6) = 0 then ((spec_l08Pick.f x5 13107 5243 8066).bind fun t202 => (some t202)) else (if (Int.tmod x0 6) = 1 then ((spec_l08Pick.f x5 11916 4660 7490).bind fun t203 => (some t203)) else (if (Int.tmod x0 6) = 2 then ((spec_l08Pick.f x5 10082 4194 6554).bind fun t204 => (some t204)) else (if (Int.tmod x0 6) = 3 then ((spec_l08Pick.f x5 9362 3647 5825).bind fun t205 => (some t205)) else (if (Int.tmod x0 6) = 4 then ((spec_l08Pick.f x5 8192 3355 5243).bind fun t206 => (some t206)) else ((spec_l08Pick.f x5 7282 2893 4559).bind fun t207 => (some t207)))))))
def spec_ShareOf.f (k : Nat) (a0 : Int) (a1 : Int) : Option (Int) := (spec_KindOf.f k a1).bind fun t200 => ((spec_l01In.f a0 0 40).bind fun t201 => (if t201 = true then (spec_ShareOf.j0 k a0 t200 (decide (t200 < 0))) else (spec_ShareOf.j0 k a0 t200 true)))
theorem spec_ShareOf.mono_l : ∀ k, (∀ y0 y1 y2, LeO (spec_ShareOf.j0 k y0 y1 y2) (spec_ShareOf.j0 (k + 1) y0 y1 y2))
 | 0 => fun _ _ _ r h => by simp [spec_ShareOf.j0] at h
 | k + 1 => by
  have ih0 := spec_ShareOf.mono_l k
  ·intro y0 y1 y2
   unfold spec_ShareOf.j0
   repeat' first
   | (with_reducible exact ih0 _ _ _)
   | (with_reducible exact spec_KindOf.mono _ _)
   | (with_reducible exact LeO.refl _)
   | (with_reducible exact LeO.none _)
   | (with_reducible refine LeO.ite ?_ ?_)
   | (with_reducible refine LeO.bind ?_ (fun _ => ?_))
   | exact ih0 _ _ _
   | exact spec_KindOf.mono _ _
   | exact LeO.none _
   | refine LeO.ite ?_ ?_
   | refine LeO.bind ?_ (fun _ => ?_)
theorem spec_ShareOf.mono : ∀ a0 a1 k, LeO (spec_ShareOf.f k a0 a1) (spec_ShareOf.f (k + 1) a0 a1) := by
 intro a0 a1 k
 have ih0 := spec_ShareOf.mono_l k
 unfold spec_ShareOf.f
 repeat' first
   | (with_reducible exact ih0 _ _ _)
   | (with_reducible exact spec_KindOf.mono _ _)
   | (with_reducible exact LeO.refl _)
   | (with_reducible exact LeO.none _)
   | (with_reducible refine LeO.ite ?_ ?_)
   | (with_reducible refine LeO.bind ?_ (fun _ => ?_))
   | exact ih0 _ _ _
   | exact spec_KindOf.mono _ _
   | exact LeO.none _
   | refine LeO.ite ?_ ?_
   | refine LeO.bind ?_ (fun _ => ?_)
set_option maxHeartbeats 8000000 in
set_option maxRecDepth 100000 in
theorem spec_ShareOf.calls (k : Nat) (a0 : Int) (a1 : Int) (r : Int) (w : World) (h : spec_ShareOf.f k a0 a1 = some r) :
  Calls Try.prog 137 #[.int .i64 a0, .int .i64 a1] w fun e w' => e = .returned (.int .i64 r) ∧ Drawn0 w w' := by
 have H : ((spec_KindOf.f k a1).bind fun t200 => ((spec_l01In.f a0 0 40).bind fun t201 => (if t201 = true then (spec_ShareOf.j0 k a0 t200 (decide (t200 < 0))) else (spec_ShareOf.j0 k a0 t200 true)))) = some r := h
 clear h
 replace H := Option.bind_eq_some_iff.mp H
 obtain ⟨t200, A30, H⟩ := H
 replace H : ((spec_l01In.f a0 0 40).bind fun t201 => (if t201 = true then (spec_ShareOf.j0 k a0 t200 (decide (t200 < 0))) else (spec_ShareOf.j0 k a0 t200 true))) = some r := H
 have A3 := Aside0.mk A30
 clear A30
 have HC4 := Aside0.mk H
 clear H
 go_enter Try.func137, Try.ntmps137
 go_upto_region 2 with (first | ((with_reducible refine gate_callee (f := 155) rfl ?_); refine goesL_ (some 7) rfl rfl Try.func155 (by kernel_rfl) rfl #[.int .i64 a1] rfl (by (try simp only [List.map_toArray, List.map_cons, List.map_nil]); first | done | rfl | (simp only [List.length_drop, List.length_take]; rfl)) ?_; (with_reducible refine (spec_KindOf.calls k a1 t200 _ A3.out).mono ?_); rintro e w' ⟨rfl, ⟨nd, rfl⟩⟩; refine ⟨_, rfl, ?_⟩))
 (try simp only [Act.put, List.setIfInBounds_toArray, List.set_cons_zero, List.set_cons_succ])
 go_cut [14] (fun v14 wc => ∃ (kq : Nat) (x14_3 : Bool), v14 = .bool x14_3 ∧ Aside0 (spec_ShareOf.j0 kq a0 t200 x14_3 = some r) ∧ Aside0 (kq ≤ k) ∧ Drawn0 w wc)
 case first =>
  have H := HC4.out
  clear HC4
  replace H := Option.bind_eq_some_iff.mp H
  obtain ⟨t201, A50, H⟩ := H
  replace H : (if t201 = true then (spec_ShareOf.j0 k a0 t200 (decide (t200 < 0))) else (spec_ShareOf.j0 k a0 t200 true)) = some r := H
  have A5 := Aside0.mk A50
  clear A50
  by_cases c6 : t201 = true
  ·subst c6
   have H1 : (spec_ShareOf.j0 k a0 t200 (decide (t200 < 0))) = some r := by rw [if_pos rfl] at H; exact H
   clear H
   have H := H1
   clear H1
   have H' := Aside0.mk H
   clear H
   go_wp2_with (first | ((with_reducible refine gate_callee (f := 87) rfl ?_); refine goesL_ (some 9) rfl rfl Try.func87 (by kernel_rfl) rfl #[.int .i64 a0, .int .i64 0, .int .i64 40] rfl (by (try simp only [List.map_toArray, List.map_cons, List.map_nil]); first | done | rfl | (simp only [List.length_drop, List.length_take]; rfl)) ?_; (with_reducible refine (spec_l01In.calls a0 0 40 true _ A5.out).mono ?_); rintro e w' ⟨rfl, ⟨nd, rfl⟩⟩; refine ⟨_, rfl, ?_⟩))
   go_meet
   case rel => exact ⟨_, (decide (t200 < 0)), (by first | rfl | (simp; done) | (simp [*]; done)), H', ⟨by first | omega | exact Nat.le_refl _⟩, by repeat (first | exact Drawn0.refl _ | apply Drawn0.step)⟩
  ·replace c6 := Bool.eq_false_iff.mpr c6
   subst c6
   have H1 : (spec_ShareOf.j0 k a0 t200 true) = some r := by rw [if_neg (show ¬ (false = true) by decide)] at H; exact H
   clear H
   have H := H1
   clear H1
   have H' := Aside0.mk H
   clear H
   go_wp2_with (first | ((with_reducible refine gate_callee (f := 87) rfl ?_); refine goesL_ (some 9) rfl rfl Try.func87 (by kernel_rfl) rfl #[.int .i64 a0, .int .i64 0, .int .i64 40] rfl (by (try simp only [List.map_toArray, List.map_cons, List.map_nil]); first | done | rfl | (simp only [List.length_drop, List.length_take]; rfl)) ?_; (with_reducible refine (spec_l01In.calls a0 0 40 false _ A5.out).mono ?_); rintro e w' ⟨rfl, ⟨nd, rfl⟩⟩; refine ⟨_, rfl, ?_⟩))
   go_meet
   case rel => exact ⟨_, (true), (by first | rfl | (simp; done) | (simp [*]; done)), H', ⟨by first | omega | exact Nat.le_refl _⟩, by repeat (first | exact Drawn0.refl _ | apply Drawn0.step)⟩
 case rest =>
  clear HC4
  try clear c1
  try clear p2
  try clear c6
  obtain ⟨kq, x14_3, rfl, HA, HJ3, ⟨mc3, rfl⟩⟩ := hcut
  cases kq with
  | zero => exact absurd HA.out (by simp [spec_ShareOf.j0])
  | succ kj3 =>
   have H := HA.out
   clear HA
   simp only [spec_ShareOf.j0] at H
   by_cases c7 : x14_3 = true
   ·subst c7
    have H1 : (some 0) = some r := by rw [if_pos rfl] at H; exact H
    clear H
    have H := H1
    clear H1
    obtain rfl := Option.some.inj H
    go_wp2
    go_ret
    exact ⟨by first | rfl | (simp; done) | (simp [*]; done), by repeat (first | exact Drawn0.refl _ | apply Drawn0.step)⟩
   ·replace c7 := Bool.eq_false_iff.mpr c7
    subst c7
    have H1 : (if (Int.tmod a0 6) = 0 then ((spec_l08Pick.f t200 13107 5243 8066).bind fun t202 => (some t202)) else (if (Int.tmod a0 6) = 1 then ((spec_l08Pick.f t200 11916 4660 7490).bind fun t203 => (some t203)) else (if (Int.tmod a0 6) = 2 then ((spec_l08Pick.f t200 10082 4194 6554).bind fun t204 => (some t204)) else (if (Int.tmod a0 6) = 3 then ((spec_l08Pick.f t200 9362 3647 5825).bind fun t205 => (some t205)) else (if (Int.tmod a0 6) = 4 then ((spec_l08Pick.f t200 8192 3355 5243).bind fun t206 => (some t206)) else ((spec_l08Pick.f t200 7282 2893 4559).bind fun t207 => (some t207))))))) = some r := by rw [if_neg (show ¬ (false = true) by decide)] at H; exact H
    clear H
    have H := H1
    clear H1
    by_cases c8 : (Int.tmod a0 6) = 0
    ·rw [if_pos c8] at H
     have c8b0 : ((Int.tmod a0 6) == 0) = true := beq_iff_eq.mpr c8
     have c8b1 : ((Int.tmod a0 6) != 0) = false := bne_eq_false_iff_eq.mpr c8
     clear c8
     replace H := Option.bind_eq_some_iff.mp H
     obtain ⟨t202, A90, H⟩ := H
     replace H : (some t202) = some r := H
     have A9 := Aside0.mk A90
     clear A90
     obtain rfl := Option.some.inj H
     go_wp2_with (first | ((with_reducible refine gate_callee (f := 156) rfl ?_); refine goesL_ (some 20) rfl rfl Try.func156 (by kernel_rfl) rfl #[.int .i64 t200, .int .i64 13107, .int .i64 5243, .int .i64 8066] rfl (by (try simp only [List.map_toArray, List.map_cons, List.map_nil]); first | done | rfl | (simp only [List.length_drop, List.length_take]; rfl)) ?_; (with_reducible refine (spec_l08Pick.calls t200 13107 5243 8066 t202 _ A9.out).mono ?_); rintro e w' ⟨rfl, ⟨nd, rfl⟩⟩; refine ⟨_, rfl, ?_⟩))
     go_ret
     exact ⟨by first | rfl | (simp; done) | (simp [*]; done), by repeat (first | exact Drawn0.refl _ | apply Drawn0.step)⟩
    ·rw [if_neg c8] at H
     have c8b0 : ((Int.tmod a0 6) == 0) = false := beq_eq_false_iff_ne.mpr c8
     have c8b1 : ((Int.tmod a0 6) != 0) = true := bne_iff_ne.mpr c8
     by_cases c10 : (Int.tmod a0 6) = 1
     ·rw [if_pos c10] at H
      have c10b0 : ((Int.tmod a0 6) == 1) = true := beq_iff_eq.mpr c10
      have c10b1 : ((Int.tmod a0 6) != 1) = false := bne_eq_false_iff_eq.mpr c10
      clear c10
      replace H := Option.bind_eq_some_iff.mp H
      obtain ⟨t203, A110, H⟩ := H
      replace H : (some t203) = some r := H
      have A11 := Aside0.mk A110
      clear A110
      obtain rfl := Option.some.inj H
      go_wp2_with (first | ((with_reducible refine gate_callee (f := 156) rfl ?_); refine goesL_ (some 24) rfl rfl Try.func156 (by kernel_rfl) rfl #[.int .i64 t200, .int .i64 11916, .int .i64 4660, .int .i64 7490] rfl (by (try simp only [List.map_toArray, List.map_cons, List.map_nil]); first | done | rfl | (simp only [List.length_drop, List.length_take]; rfl)) ?_; (with_reducible refine (spec_l08Pick.calls t200 11916 4660 7490 t203 _ A11.out).mono ?_); rintro e w' ⟨rfl, ⟨nd, rfl⟩⟩; refine ⟨_, rfl, ?_⟩))
      go_ret
      exact ⟨by first | rfl | (simp; done) | (simp [*]; done), by repeat (first | exact Drawn0.refl _ | apply Drawn0.step)⟩
     ·rw [if_neg c10] at H
      have c10b0 : ((Int.tmod a0 6) == 1) = false := beq_eq_false_iff_ne.mpr c10
      have c10b1 : ((Int.tmod a0 6) != 1) = true := bne_iff_ne.mpr c10
      by_cases c12 : (Int.tmod a0 6) = 2
      ·rw [if_pos c12] at H
       have c12b0 : ((Int.tmod a0 6) == 2) = true := beq_iff_eq.mpr c12
       have c12b1 : ((Int.tmod a0 6) != 2) = false := bne_eq_false_iff_eq.mpr c12
       clear c12
       replace H := Option.bind_eq_some_iff.mp H
       obtain ⟨t204, A130, H⟩ := H
       replace H : (some t204) = some r := H
       have A13 := Aside0.mk A130
       clear A130
       obtain rfl := Option.some.inj H
       go_wp2_with (first | ((with_reducible refine gate_callee (f := 156) rfl ?_); refine goesL_ (some 28) rfl rfl Try.func156 (by kernel_rfl) rfl #[.int .i64 t200, .int .i64 10082, .int .i64 4194, .int .i64 6554] rfl (by (try simp only [List.map_toArray, List.map_cons, List.map_nil]); first | done | rfl | (simp only [List.length_drop, List.length_take]; rfl)) ?_; (with_reducible refine (spec_l08Pick.calls t200 10082 4194 6554 t204 _ A13.out).mono ?_); rintro e w' ⟨rfl, ⟨nd, rfl⟩⟩; refine ⟨_, rfl, ?_⟩))
       go_ret
       exact ⟨by first | rfl | (simp; done) | (simp [*]; done), by repeat (first | exact Drawn0.refl _ | apply Drawn0.step)⟩
      ·rw [if_neg c12] at H
       have c12b0 : ((Int.tmod a0 6) == 2) = false := beq_eq_false_iff_ne.mpr c12
       have c12b1 : ((Int.tmod a0 6) != 2) = true := bne_iff_ne.mpr c12
       by_cases c14 : (Int.tmod a0 6) = 3
       ·rw [if_pos c14] at H
        have c14b0 : ((Int.tmod a0 6) == 3) = true := beq_iff_eq.mpr c14
        have c14b1 : ((Int.tmod a0 6) != 3) = false := bne_eq_false_iff_eq.mpr c14
        clear c14
        replace H := Option.bind_eq_some_iff.mp H
        obtain ⟨t205, A150, H⟩ := H
        replace H : (some t205) = some r := H
        have A15 := Aside0.mk A150
        clear A150
        obtain rfl := Option.some.inj H
        go_wp2_with (first | ((with_reducible refine gate_callee (f := 156) rfl ?_); refine goesL_ (some 32) rfl rfl Try.func156 (by kernel_rfl) rfl #[.int .i64 t200, .int .i64 9362, .int .i64 3647, .int .i64 5825] rfl (by (try simp only [List.map_toArray, List.map_cons, List.map_nil]); first | done | rfl | (simp only [List.length_drop, List.length_take]; rfl)) ?_; (with_reducible refine (spec_l08Pick.calls t200 9362 3647 5825 t205 _ A15.out).mono ?_); rintro e w' ⟨rfl, ⟨nd, rfl⟩⟩; refine ⟨_, rfl, ?_⟩))
        go_ret
        exact ⟨by first | rfl | (simp; done) | (simp [*]; done), by repeat (first | exact Drawn0.refl _ | apply Drawn0.step)⟩
       ·rw [if_neg c14] at H
        have c14b0 : ((Int.tmod a0 6) == 3) = false := beq_eq_false_iff_ne.mpr c14
        have c14b1 : ((Int.tmod a0 6) != 3) = true := bne_iff_ne.mpr c14
        by_cases c16 : (Int.tmod a0 6) = 4
        ·rw [if_pos c16] at H
         have c16b0 : ((Int.tmod a0 6) == 4) = true := beq_iff_eq.mpr c16
         have c16b1 : ((Int.tmod a0 6) != 4) = false := bne_eq_false_iff_eq.mpr c16
         clear c16
         replace H := Option.bind_eq_some_iff.mp H
         obtain ⟨t206, A170, H⟩ := H
         replace H : (some t206) = some r := H
         have A17 := Aside0.mk A170
         clear A170
         obtain rfl := Option.some.inj H
         go_wp2_with (first | ((with_reducible refine gate_callee (f := 156) rfl ?_); refine goesL_ (some 36) rfl rfl Try.func156 (by kernel_rfl) rfl #[.int .i64 t200, .int .i64 8192, .int .i64 3355, .int .i64 5243] rfl (by (try simp only [List.map_toArray, List.map_cons, List.map_nil]); first | done | rfl | (simp only [List.length_drop, List.length_take]; rfl)) ?_; (with_reducible refine (spec_l08Pick.calls t200 8192 3355 5243 t206 _ A17.out).mono ?_); rintro e w' ⟨rfl, ⟨nd, rfl⟩⟩; refine ⟨_, rfl, ?_⟩))
         go_ret
         exact ⟨by first | rfl | (simp; done) | (simp [*]; done), by repeat (first | exact Drawn0.refl _ | apply Drawn0.step)⟩
        ·rw [if_neg c16] at H
         have c16b0 : ((Int.tmod a0 6) == 4) = false := beq_eq_false_iff_ne.mpr c16
         have c16b1 : ((Int.tmod a0 6) != 4) = true := bne_iff_ne.mpr c16
         replace H := Option.bind_eq_some_iff.mp H
         obtain ⟨t207, A180, H⟩ := H
         replace H : (some t207) = some r := H
         have A18 := Aside0.mk A180
         clear A180
         obtain rfl := Option.some.inj H
         go_wp2_with (first | ((with_reducible refine gate_callee (f := 156) rfl ?_); refine goesL_ (some 38) rfl rfl Try.func156 (by kernel_rfl) rfl #[.int .i64 t200, .int .i64 7282, .int .i64 2893, .int .i64 4559] rfl (by (try simp only [List.map_toArray, List.map_cons, List.map_nil]); first | done | rfl | (simp only [List.length_drop, List.length_take]; rfl)) ?_; (with_reducible refine (spec_l08Pick.calls t200 7282 2893 4559 t207 _ A18.out).mono ?_); rintro e w' ⟨rfl, ⟨nd, rfl⟩⟩; refine ⟨_, rfl, ?_⟩))
         go_ret
         exact ⟨by first | rfl | (simp; done) | (simp [*]; done), by repeat (first | exact Drawn0.refl _ | apply Drawn0.step)⟩

def spec_SmallLevel.j0 : Nat → Int → Int → Int → Bool → Option (Int)
 | 0, _, _, _, _ => none
 | k + 1, x0, x1, x2, x20 => if x20 = true then (some 0) else (if 0 ≤ (IntKind.u64.wrap (wrap64 (15 + (wrap64 (Int.tdiv x1 6))))) then ((spec_l08Sized.f x0).bind fun t211 => ((spec_ShareOf.f k x1 x2).bind fun t212 => (if (shl .i64 1 (IntKind.u64.wrap (wrap64 (15 + (wrap64 (Int.tdiv x1 6)))))) = 0 then (none) else ((spec_l08Signed.f x0 (wrap64 (Int.tdiv (wrap64 ((wrap64 (t211 * t212)) + (wrap64 (Int.tdiv (shl .i64 1 (IntKind.u64.wrap (wrap64 (15 + (wrap64 (Int.tdiv x1 6)))))) 3)))) (shl .i64 1 (IntKind.u64.wrap (wrap64 (15 + (wrap64 (Int.tdiv x1 6))))))))).bind fun t213 => (some t213))))) else (none))
def spec_SmallLevel.f (k : Nat) (a0 : Int) (a1 : Int) (a2 : Int) : Option (Int) := (spec_l01In.f a0 (-20000) 20000).bind fun t208 => (if t208 = true then ((spec_l01In.f a1 0 40).bind fun t209 => (if t209 = true then ((spec_l01In.f a2 0 15).bind fun t210 => (spec_SmallLevel.j0 k a0 a1 a2 (!t210))) else (spec_SmallLevel.j0 k a0 a1 a2 true))) else (spec_SmallLevel.j0 k a0 a1 a2 true))
theorem spec_SmallLevel.mono_l : ∀ k, (∀ y0 y1 y2 y3, LeO (spec_SmallLevel.j0 k y0 y1 y2 y3) (spec_SmallLevel.j0 (k + 1) y0 y1 y2 y3))
 | 0 => fun _ _ _ _ r h => by simp [spec_SmallLevel.j0] at h
 | k + 1 => by
  have ih0 := spec_SmallLevel.mono_l k
  ·intro y0 y1 y2 y3
   unfold spec_SmallLevel.j0
   repeat' first
   | (with_reducible exact ih0 _ _ _ _)
   | (with_reducible exact spec_ShareOf.mono _ _ _)
   | (with_reducible exact LeO.refl _)
   | (with_reducible exact LeO.none _)
   | (with_reducible refine LeO.ite ?_ ?_)
   | (with_reducible refine LeO.bind ?_ (fun _ => ?_))
   | exact ih0 _ _ _ _
   | exact spec_ShareOf.mono _ _ _
   | exact LeO.none _
   | refine LeO.ite ?_ ?_
   | refine LeO.bind ?_ (fun _ => ?_)
theorem spec_SmallLevel.mono : ∀ a0 a1 a2 k, LeO (spec_SmallLevel.f k a0 a1 a2) (spec_SmallLevel.f (k + 1) a0 a1 a2) := by
 intro a0 a1 a2 k
 have ih0 := spec_SmallLevel.mono_l k
 unfold spec_SmallLevel.f
 repeat' first
   | (with_reducible exact ih0 _ _ _ _)
   | (with_reducible exact spec_ShareOf.mono _ _ _)
   | (with_reducible exact LeO.refl _)
   | (with_reducible exact LeO.none _)
   | (with_reducible refine LeO.ite ?_ ?_)
   | (with_reducible refine LeO.bind ?_ (fun _ => ?_))
   | exact ih0 _ _ _ _
   | exact spec_ShareOf.mono _ _ _
   | exact LeO.none _
   | refine LeO.ite ?_ ?_
   | refine LeO.bind ?_ (fun _ => ?_)
set_option maxHeartbeats 8000000 in
set_option maxRecDepth 100000 in
theorem spec_SmallLevel.calls (k : Nat) (a0 : Int) (a1 : Int) (a2 : Int) (r : Int) (w : World) (h : spec_SmallLevel.f k a0 a1 a2 = some r) :
  Calls Try.prog 99 #[.int .i64 a0, .int .i64 a1, .int .i64 a2] w fun e w' => e = .returned (.int .i64 r) ∧ Drawn0 w w' := by
 have H : ((spec_l01In.f a0 (-20000) 20000).bind fun t208 => (if t208 = true then ((spec_l01In.f a1 0 40).bind fun t209 => (if t209 = true then ((spec_l01In.f a2 0 15).bind fun t210 => (spec_SmallLevel.j0 k a0 a1 a2 (!t210))) else (spec_SmallLevel.j0 k a0 a1 a2 true))) else (spec_SmallLevel.j0 k a0 a1 a2 true))) = some r := h
 clear h
 have HC4 := Aside0.mk H
 clear H
 go_enter Try.func99, Try.ntmps99
 go_upto_region 1 with (fail)
 go_cut [20] (fun v20 wc => ∃ (kq : Nat) (x20_3 : Bool), v20 = .bool x20_3 ∧ Aside0 (spec_SmallLevel.j0 kq a0 a1 a2 x20_3 = some r) ∧ Aside0 (kq ≤ k) ∧ Drawn0 w wc)
 case first =>
  have H := HC4.out
  clear HC4
  replace H := Option.bind_eq_some_iff.mp H
  obtain ⟨t208, A50, H⟩ := H
  replace H : (if t208 = true then ((spec_l01In.f a1 0 40).bind fun t209 => (if t209 = true then ((spec_l01In.f a2 0 15).bind fun t210 => (spec_SmallLevel.j0 k a0 a1 a2 (!t210))) else (spec_SmallLevel.j0 k a0 a1 a2 true))) else (spec_SmallLevel.j0 k a0 a1 a2 true)) = some r := H
  have A5 := Aside0.mk A50
  clear A50
  by_cases c6 : t208 = true
  ·subst c6
   have H1 : ((spec_l01In.f a1 0 40).bind fun t209 => (if t209 = true then ((spec_l01In.f a2 0 15).bind fun t210 => (spec_SmallLevel.j0 k a0 a1 a2 (!t210))) else (spec_SmallLevel.j0 k a0 a1 a2 true))) = some r := by rw [if_pos rfl] at H; exact H
   clear H
   have H := H1
   clear H1
   replace H := Option.bind_eq_some_iff.mp H
   obtain ⟨t209, A70, H⟩ := H
   replace H : (if t209 = true then ((spec_l01In.f a2 0 15).bind fun t210 => (spec_SmallLevel.j0 k a0 a1 a2 (!t210))) else (spec_SmallLevel.j0 k a0 a1 a2 true)) = some r := H
   have A7 := Aside0.mk A70
   clear A70
   by_cases c8 : t209 = true
   ·subst c8
    have H1 : ((spec_l01In.f a2 0 15).bind fun t210 => (spec_SmallLevel.j0 k a0 a1 a2 (!t210))) = some r := by rw [if_pos rfl] at H; exact H
    clear H
    have H := H1
    clear H1
    replace H := Option.bind_eq_some_iff.mp H
    obtain ⟨t210, A90, H⟩ := H
    replace H : (spec_SmallLevel.j0 k a0 a1 a2 (!t210)) = some r := H
    have A9 := Aside0.mk A90
    clear A90
    have H' := Aside0.mk H
    clear H
    go_wp2_with (first | ((with_reducible refine gate_callee (f := 87) rfl ?_); refine goesL_ (some 9) rfl rfl Try.func87 (by kernel_rfl) rfl #[.int .i64 a0, .int .i64 (-20000), .int .i64 20000] rfl (by (try simp only [List.map_toArray, List.map_cons, List.map_nil]); first | done | rfl | (simp only [List.length_drop, List.length_take]; rfl)) ?_; (with_reducible refine (spec_l01In.calls a0 (-20000) 20000 true _ A5.out).mono ?_); rintro e w' ⟨rfl, ⟨nd, rfl⟩⟩; refine ⟨_, rfl, ?_⟩) | (go_at_call 87; (with_reducible refine (spec_l01In.calls a1 0 40 true _ A7.out).mono ?_); rintro e w' ⟨rfl, ⟨nd, rfl⟩⟩) | (go_at_call 87; (with_reducible refine (spec_l01In.calls a2 0 15 t210 _ A9.out).mono ?_); rintro e w' ⟨rfl, ⟨nd, rfl⟩⟩))
    go_meet
    case rel => exact ⟨_, (!t210), (by first | rfl | (simp; done) | (simp [*]; done)), H', ⟨by first | omega | exact Nat.le_refl _⟩, by repeat (first | exact Drawn0.refl _ | apply Drawn0.step)⟩
   ·replace c8 := Bool.eq_false_iff.mpr c8
    subst c8
    have H1 : (spec_SmallLevel.j0 k a0 a1 a2 true) = some r := by rw [if_neg (show ¬ (false = true) by decide)] at H; exact H
    clear H
    have H := H1
    clear H1
    have H' := Aside0.mk H
    clear H
    go_wp2_with (first | ((with_reducible refine gate_callee (f := 87) rfl ?_); refine goesL_ (some 9) rfl rfl Try.func87 (by kernel_rfl) rfl #[.int .i64 a0, .int .i64 (-20000), .int .i64 20000] rfl (by (try simp only [List.map_toArray, List.map_cons, List.map_nil]); first | done | rfl | (simp only [List.length_drop, List.length_take]; rfl)) ?_; (with_reducible refine (spec_l01In.calls a0 (-20000) 20000 true _ A5.out).mono ?_); rintro e w' ⟨rfl, ⟨nd, rfl⟩⟩; refine ⟨_, rfl, ?_⟩) | (go_at_call 87; (with_reducible refine (spec_l01In.calls a1 0 40 false _ A7.out).mono ?_); rintro e w' ⟨rfl, ⟨nd, rfl⟩⟩))
    go_meet
    case rel => exact ⟨_, (true), (by first | rfl | (simp; done) | (simp [*]; done)), H', ⟨by first | omega | exact Nat.le_refl _⟩, by repeat (first | exact Drawn0.refl _ | apply Drawn0.step)⟩
  ·replace c6 := Bool.eq_false_iff.mpr c6
   subst c6
   have H1 : (spec_SmallLevel.j0 k a0 a1 a2 true) = some r := by rw [if_neg (show ¬ (false = true) by decide)] at H; exact H
   clear H
   have H := H1
   clear H1
   have H' := Aside0.mk H
   clear H
   go_wp2_with (first | ((with_reducible refine gate_callee (f := 87) rfl ?_); refine goesL_ (some 9) rfl rfl Try.func87 (by kernel_rfl) rfl #[.int .i64 a0, .int .i64 (-20000), .int .i64 20000] rfl (by (try simp only [List.map_toArray, List.map_cons, List.map_nil]); first | done | rfl | (simp only [List.length_drop, List.length_take]; rfl)) ?_; (with_reducible refine (spec_l01In.calls a0 (-20000) 20000 false _ A5.out).mono ?_); rintro e w' ⟨rfl, ⟨nd, rfl⟩⟩; refine ⟨_, rfl, ?_⟩))
   go_meet
   case rel => exact ⟨_, (true), (by first | rfl | (simp; done) | (simp [*]; done)), H', ⟨by first | omega | exact Nat.le_refl _⟩, by repeat (first | exact Drawn0.refl _ | apply Drawn0.step)⟩
 case rest =>
  clear HC4
  try clear p2
  try clear c6
  try clear c8
  try clear c9
  obtain ⟨kq, x20_3, rfl, HA, HJ3, ⟨mc3, rfl⟩⟩ := hcut
  cases kq with
  | zero => exact absurd HA.out (by simp [spec_SmallLevel.j0])
  | succ kj3 =>
   have H := HA.out
   clear HA
   simp only [spec_SmallLevel.j0] at H
   by_cases c10 : x20_3 = true
   ·subst c10
    have H1 : (some 0) = some r := by rw [if_pos rfl] at H; exact H
    clear H
    have H := H1
    clear H1
    obtain rfl := Option.some.inj H
    go_wp2
    go_ret
    exact ⟨by first | rfl | (simp; done) | (simp [*]; done), by repeat (first | exact Drawn0.refl _ | apply Drawn0.step)⟩
   ·replace c10 := Bool.eq_false_iff.mpr c10
    subst c10
    have H1 : (if 0 ≤ (IntKind.u64.wrap (wrap64 (15 + (wrap64 (Int.tdiv a1 6))))) then ((spec_l08Sized.f a0).bind fun t211 => ((spec_ShareOf.f kj3 a1 a2).bind fun t212 => (if (shl .i64 1 (IntKind.u64.wrap (wrap64 (15 + (wrap64 (Int.tdiv a1 6)))))) = 0 then (none) else ((spec_l08Signed.f a0 (wrap64 (Int.tdiv (wrap64 ((wrap64 (t211 * t212)) + (wrap64 (Int.tdiv (shl .i64 1 (IntKind.u64.wrap (wrap64 (15 + (wrap64 (Int.tdiv a1 6)))))) 3)))) (shl .i64 1 (IntKind.u64.wrap (wrap64 (15 + (wrap64 (Int.tdiv a1 6))))))))).bind fun t213 => (some t213))))) else (none)) = some r := by rw [if_neg (show ¬ (false = true) by decide)] at H; exact H
    clear H
    have H := H1
    clear H1
    obtain ⟨ji11, hji11⟩ : ∃ j_ : Int, (IntKind.u64.wrap (wrap64 (15 + (wrap64 (Int.tdiv a1 6))))) = j_ := ⟨_, rfl⟩
    replace H : (if 0 ≤ (ji11) then ((spec_l08Sized.f a0).bind fun t211 => ((spec_ShareOf.f kj3 a1 a2).bind fun t212 => (if (shl .i64 1 (ji11)) = 0 then (none) else ((spec_l08Signed.f a0 (wrap64 (Int.tdiv (wrap64 ((wrap64 (t211 * t212)) + (wrap64 (Int.tdiv (shl .i64 1 (ji11)) 3)))) (shl .i64 1 (ji11))))).bind fun t213 => (some t213))))) else (none)) = some r := by first | (rw [hji11] at H; exact H) | (simp only [hji11] at H ⊢; exact H)
    by_cases c12 : 0 ≤ (ji11)
    ·rw [if_pos c12] at H
     have c12b0 := eq_true c12
     have c12b1 : decide (0 ≤ (ji11)) = true := decide_eq_true c12
     clear c12
     obtain ⟨ji13, hji13⟩ : ∃ j_ : Int, (shl .i64 1 (ji11)) = j_ := ⟨_, rfl⟩
     replace H : ((spec_l08Sized.f a0).bind fun t211 => ((spec_ShareOf.f kj3 a1 a2).bind fun t212 => (if (ji13) = 0 then (none) else ((spec_l08Signed.f a0 (wrap64 (Int.tdiv (wrap64 ((wrap64 (t211 * t212)) + (wrap64 (Int.tdiv (ji13) 3)))) (ji13)))).bind fun t213 => (some t213))))) = some r := by first | (rw [hji13] at H; exact H) | (simp only [hji13] at H ⊢; exact H)
     have hji13_ : (IntKind.i64.wrap (1 * 2 ^ min (ji11).toNat 64)) = ji13 := hji13
     have hji13z : (ji11) ≤ 64 → (IntKind.i64.wrap (1 * 2 ^ (ji11).toNat)) = ji13 := shl_small hji13
     have hji13u : (IntKind.i64.wrap (2 ^ min (ji11).toNat 64)) = ji13 := by have h_ := hji13_; rw [Int.one_mul] at h_; exact h_
     have hji13v : (ji11) ≤ 64 → (IntKind.i64.wrap (2 ^ (ji11).toNat)) = ji13 := fun hle_ => by have h_ := hji13z hle_; rw [Int.one_mul] at h_; exact h_
     have hji13y : (wrap64 (1 * 2 ^ min (ji11).toNat 64)) = ji13 := (i64_w _).symm.trans hji13_
     have hji13x : (ji11) ≤ 64 → (wrap64 (1 * 2 ^ (ji11).toNat)) = ji13 := fun h_ => (i64_w _).symm.trans (hji13z h_)
     replace H := Option.bind_eq_some_iff.mp H
     obtain ⟨t211, A140, H⟩ := H
     replace H : ((spec_ShareOf.f kj3 a1 a2).bind fun t212 => (if (ji13) = 0 then (none) else ((spec_l08Signed.f a0 (wrap64 (Int.tdiv (wrap64 ((wrap64 (t211 * t212)) + (wrap64 (Int.tdiv (ji13) 3)))) (ji13)))).bind fun t213 => (some t213)))) = some r := H
     have A14 := Aside0.mk A140
     clear A140
     replace H := Option.bind_eq_some_iff.mp H
     obtain ⟨t212, A150, H⟩ := H
     replace H : (if (ji13) = 0 then (none) else ((spec_l08Signed.f a0 (wrap64 (Int.tdiv (wrap64 ((wrap64 (t211 * t212)) + (wrap64 (Int.tdiv (ji13) 3)))) (ji13)))).bind fun t213 => (some t213))) = some r := H
     have A15 := Aside0.mk A150
     clear A150
     by_cases c16 : (ji13) = 0
     ·rw [if_pos c16] at H
      exact absurd H (by simp)
     ·rw [if_neg c16] at H
      have c16b0 : ((ji13) == 0) = false := beq_eq_false_iff_ne.mpr c16
      have c16b1 : ((ji13) != 0) = true := bne_iff_ne.mpr c16
      replace H := Option.bind_eq_some_iff.mp H
      obtain ⟨t213, A170, H⟩ := H
      replace H : (some t213) = some r := H
      have A17 := Aside0.mk A170
      clear A170
      obtain rfl := Option.some.inj H
      go_wp2_with (first | ((with_reducible refine gate_callee (f := 136) rfl ?_); refine goesL_ (some 28) rfl rfl Try.func136 (by kernel_rfl) rfl #[.int .i64 a0] rfl (by (try simp only [List.map_toArray, List.map_cons, List.map_nil]); first | done | rfl | (simp only [List.length_drop, List.length_take]; rfl)) ?_; (with_reducible refine (spec_l08Sized.calls a0 t211 _ A14.out).mono ?_); rintro e w' ⟨rfl, ⟨nd, rfl⟩⟩; refine ⟨_, rfl, ?_⟩) | ((with_reducible refine gate_callee (f := 137) rfl ?_); refine goesL_ (some 31) rfl rfl Try.func137 (by kernel_rfl) rfl #[.int .i64 a1, .int .i64 a2] rfl (by (try simp only [List.map_toArray, List.map_cons, List.map_nil]); first | done | rfl | (simp only [List.length_drop, List.length_take]; rfl)) ?_; (with_reducible refine (spec_ShareOf.calls kj3 a1 a2 t212 _ A15.out).mono ?_); rintro e w' ⟨rfl, ⟨nd, rfl⟩⟩; refine ⟨_, rfl, ?_⟩) | ((with_reducible refine gate_callee (f := 135) rfl ?_); refine goesL_ (some 38) rfl rfl Try.func135 (by kernel_rfl) rfl #[.int .i64 a0, .int .i64 (wrap64 (Int.tdiv (wrap64 ((wrap64 (t211 * t212)) + (wrap64 (Int.tdiv (ji13) 3)))) (ji13)))] rfl (by (try simp only [List.map_toArray, List.map_cons, List.map_nil]); first | done | (simp only [hji13]; rfl) | rfl | (rw [show (wrap64 (Int.tdiv (wrap64 ((wrap64 (t211 * t212)) + (wrap64 (Int.tdiv (ji13) 3)))) (ji13))) = (Int.tdiv (wrap64 ((wrap64 (t211 * t212)) + (wrap64 (Int.tdiv (ji13) 3)))) (ji13)) from by unfold wrap64; omega]; rfl) | (simp only [List.length_drop, List.length_take]; rfl)) ?_; (with_reducible refine (spec_l08Signed.calls a0 (wrap64 (Int.tdiv (wrap64 ((wrap64 (t211 * t212)) + (wrap64 (Int.tdiv (ji13) 3)))) (ji13))) t213 _ A17.out).mono ?_); rintro e w' ⟨rfl, ⟨nd, rfl⟩⟩; refine ⟨_, rfl, ?_⟩))
      go_ret
      exact ⟨by first | rfl | (simp; done) | (simp only [← hji11, ← hji13] <;> (first | rfl | simp)) | (simp [*]; done), by repeat (first | exact Drawn0.refl _ | apply Drawn0.step)⟩
    ·rw [if_neg c12] at H
     exact absurd H (by simp)

end Go.Proofs.Ytlmlkoalicjlhaa.QFnExactLevelsOf
