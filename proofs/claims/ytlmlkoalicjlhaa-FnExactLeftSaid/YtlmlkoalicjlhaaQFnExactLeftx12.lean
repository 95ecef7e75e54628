/- What the law reaches, as plain functions, each with the proof that its call comes to its answer: written by a program for this claim. -/
import Derived.Test.YtlmlkoalicjlhaaQFnExactLeftx0
import Derived.Test.YtlmlkoalicjlhaaQFnExactLeftx6
import Derived.Test.YtlmlkoalicjlhaaQFnExactLeftx7
import Derived.Test.YtlmlkoalicjlhaaQFnExactLeftx9
import Derived.Test.YtlmlkoalicjlhaaQFnExactLeftx10
import Derived.Test.YtlmlkoalicjlhaaQFnExactLeftx11
namespace Go.Proofs.Ytlmlkoalicjlhaa.QFnExactLeft
open Go.RowKit Go.Proofs.YtlmlkoalicjlhaaW.PrintWords Go.Proofs.YtlmlkoalicjlhaaW.PrintLast Go.Proofs.YtlmlkoalicjlhaaW.PrintMore Go.Proofs.YtlmlkoalicjlhaaV
attribute [local go_sem] max2_int min2_int max_two min_two max_three min_three max_four min_four   -- for this text's walks alone
set_option linter.unusedVariables false
set_option linter.unusedSimpArgs false

mutual
def impl_LevelsBack.j0 : Nat → List Int → Bool → Bool → Int → Bool → Bool → Option (List Int × Bool)
 | 0, _, _, _, _, _, _ => none
 | k + 1, x0, x26, x302000, x302001, x302002, x302003 => if x26 = true then (some ((([] : List Int)), false)) else (if x302003 = true then ((impl_Unscanned.f k 8 x0).bind fun bt307 => (some (bt307.1, bt307.2))) else (if x302002 = true then ((impl_Unscanned.f k 8 x0).bind fun bt311 => (impl_LevelsBack.l0 k bt311.1 (bt311.1.length : Int) 0 x302000 x302001 x302002 x302003)) else (if 64 ≤ 35184372088832 then (impl_LevelsBack.l1 k x0 (List.replicate 64 0) 0 x302000 x302001 x302002 x302003) else (none))))
def impl_LevelsBack.l0 : Nat → List Int → Int → Int → Bool → Int → Bool → Bool → Option (List Int × Bool)
 | 0, _, _, _, _, _, _, _ => none
 | k + 1, x6, x42, x43, x302000, x302001, x302002, x302003 => if x43 < x42 then (if 0 ≤ x43 then (if x43 < (x6.length : Int) then ((impl_LargeBack.f (rd x6 x43) x302001).bind fun t316 => (impl_LevelsBack.l0 k (x6.set (x43 : Int).toNat t316) x42 (wrap64 (x43 + 1)) x302000 x302001 x302002 x302003)) else (none)) else (none)) else ((impl_EightBack.f k x6).bind fun t318 => (some (t318, true)))
def impl_LevelsBack.l1 : Nat → List Int → List Int → Int → Bool → Int → Bool → Bool → Option (List Int × Bool)
 | 0, _, _, _, _, _, _, _ => none
 | k + 1, x0, x10, x59, x302000, x302001, x302002, x302003 => if x59 < 4 then (if 0 ≤ (wrap64 (16 * x59)) then (if (wrap64 (16 * x59)) ≤ (wrap64 ((wrap64 (16 * x59)) + 16)) then (if (wrap64 ((wrap64 (16 * x59)) + 16)) ≤ (x0.length : Int) then ((impl_Unscanned.f k 4 ((x0.take ((wrap64 ((wrap64 (16 * x59)) + 16)) : Int).toNat).drop ((wrap64 (16 * x59)) : Int).toNat)).bind fun bt325 => (impl_LevelsBack.l2 k x0 x10 x59 bt325.1 x59 (bt325.1.length : Int) 0 x302000 x302001 x302002 x302003)) else (none)) else (none)) else (none)) else (some (x10, true))
def impl_LevelsBack.l2 : Nat → List Int → List Int → Int → List Int → Int → Int → Int → Bool → Int → Bool → Bool → Option (List Int × Bool)
 | 0, _, _, _, _, _, _, _, _, _, _, _ => none
 | k + 1, x0, x10, x11, x12, x59, x74, x75, x302000, x302001, x302002, x302003 => if x75 < x74 then (if 0 ≤ x75 then (if x75 < (x12.length : Int) then ((impl_SmallBack.f k (rd x12 x75) x302001 x75).bind fun t330 => (impl_LevelsBack.l2 k x0 x10 x11 (x12.set (x75 : Int).toNat t330) x59 x74 (wrap64 (x75 + 1)) x302000 x302001 x302002 x302003)) else (none)) else (none)) else ((impl_FourBack.f k x12).bind fun t332 => ((impl_quarter.f k x11).bind fun t335 => (impl_LevelsBack.l3 k x0 x10 t332 x59 t335 (t335.length : Int) 0 x302000 x302001 x302002 x302003)))
def impl_LevelsBack.l3 : Nat → List Int → List Int → List Int → Int → List Int → Int → Int → Bool → Int → Bool → Bool → Option (List Int × Bool)
 | 0, _, _, _, _, _, _, _, _, _, _, _ => none
 | k + 1, x0, x10, x16, x59, x92, x93, x94, x302000, x302001, x302002, x302003 => if x94 < x93 then (if 0 ≤ x94 then (if x94 < (x92.length : Int) then (if x94 < (x16.length : Int) then (if 0 ≤ (rd x92 x94) then (if (rd x92 x94) < (x10.length : Int) then (impl_LevelsBack.l3 k x0 (x10.set ((rd x92 x94) : Int).toNat (rd x16 x94)) x16 x59 x92 x93 (wrap64 (x94 + 1)) x302000 x302001 x302002 x302003) else (none)) else (none)) else (none)) else (none)) else (none)) else (impl_LevelsBack.l1 k x0 x10 (wrap64 (x59 + 1)) x302000 x302001 x302002 x302003)
end
def impl_LevelsBack.f (k : Nat) (l0 : List Int) (a1_0 : Bool) (a1_1 : Int) (a1_2 : Bool) (a1_3 : Bool) : Option (List Int × Bool) := (impl_areLevels.f k l0).bind fun t302 => (if t302 = true then ((impl_CondOk.f a1_0 a1_1 a1_2 a1_3).bind fun t303 => (impl_LevelsBack.j0 k l0 (!t303) a1_0 a1_1 a1_2 a1_3)) else (impl_LevelsBack.j0 k l0 true a1_0 a1_1 a1_2 a1_3))
theorem impl_LevelsBack.mono_l : ∀ k, (∀ y0 y1 y2 y3 y4 y5, LeO (impl_LevelsBack.j0 k y0 y1 y2 y3 y4 y5) (impl_LevelsBack.j0 (k + 1) y0 y1 y2 y3 y4 y5)) ∧ (∀ y0 y1 y2 y3 y4 y5 y6, LeO (impl_LevelsBack.l0 k y0 y1 y2 y3 y4 y5 y6) (impl_LevelsBack.l0 (k + 1) y0 y1 y2 y3 y4 y5 y6)) ∧ (∀ y0 y1 y2 y3 y4 y5 y6, LeO (impl_LevelsBack.l1 k y0 y1 y2 y3 y4 y5 y6) (impl_LevelsBack.l1 (k + 1) y0 y1 y2 y3 y4 y5 y6)) ∧ (∀ y0 y1 y2 y3 y4 y5 y6 y7 y8 y9 y10, LeO (impl_LevelsBack.l2 k y0 y1 y2 y3 y4 y5 y6 y7 y8 y9 y10) (impl_LevelsBack.l2 (k + 1) y0 y1 y2 y3 y4 y5 y6 y7 y8 y9 y10)) ∧ (∀ y0 y1 y2 y3 y4 y5 y6 y7 y8 y9 y10, LeO (impl_LevelsBack.l3 k y0 y1 y2 y3 y4 y5 y6 y7 y8 y9 y10) (impl_LevelsBack.l3 (k + 1) y0 y1 y2 y3 y4 y5 y6 y7 y8 y9 y10))
 | 0 => ⟨fun _ _ _ _ _ _ r h => by simp [impl_LevelsBack.j0] at h, fun _ _ _ _ _ _ _ r h => by simp [impl_LevelsBack.l0] at h, fun _ _ _ _ _ _ _ r h => by simp [impl_LevelsBack.l1] at h, fun _ _ _ _ _ _ _ _ _ _ _ r h => by simp [impl_LevelsBack.l2] at h, fun _ _ _ _ _ _ _ _ _ _ _ r h => by simp [impl_LevelsBack.l3] at h⟩
 | k + 1 => by
  obtain ⟨ih0, ih1, ih2, ih3, ih4⟩ := impl_LevelsBack.mono_l k
  refine ⟨?_, ?_, ?_, ?_, ?_⟩
  ·intro y0 y1 y2 y3 y4 y5
   unfold impl_LevelsBack.j0
   repeat' first
   | (with_reducible exact ih0 _ _ _ _ _ _)
   | (with_reducible exact ih1 _ _ _ _ _ _ _)
   | (with_reducible exact ih2 _ _ _ _ _ _ _)
   | (with_reducible exact ih3 _ _ _ _ _ _ _ _ _ _ _)
   | (with_reducible exact ih4 _ _ _ _ _ _ _ _ _ _ _)
   | (with_reducible exact impl_EightBack.mono _ _)
   | (with_reducible exact impl_FourBack.mono _ _)
   | (with_reducible exact impl_SmallBack.mono _ _ _ _)
   | (with_reducible exact impl_Unscanned.mono _ _ _)
   | (with_reducible exact impl_areLevels.mono _ _)
   | (with_reducible exact impl_quarter.mono _ _)
   | (with_reducible exact LeO.refl _)
   | (with_reducible exact LeO.none _)
   | (with_reducible refine LeO.ite ?_ ?_)
   | (with_reducible refine LeO.bind ?_ (fun _ => ?_))
   | exact ih0 _ _ _ _ _ _
   | exact ih1 _ _ _ _ _ _ _
   | exact ih2 _ _ _ _ _ _ _
   | exact ih3 _ _ _ _ _ _ _ _ _ _ _
   | exact ih4 _ _ _ _ _ _ _ _ _ _ _
   | exact impl_EightBack.mono _ _
   | exact impl_FourBack.mono _ _
   | exact impl_SmallBack.mono _ _ _ _
   | exact impl_Unscanned.mono _ _ _
   | exact impl_areLevels.mono _ _
   | exact impl_quarter.mono _ _
   | exact LeO.none _
   | refine LeO.ite ?_ ?_
   | refine LeO.bind ?_ (fun _ => ?_)
  ·intro y0 y1 y2 y3 y4 y5 y6
   unfold impl_LevelsBack.l0
   repeat' first
   | (with_reducible exact ih0 _ _ _ _ _ _)
   | (with_reducible exact ih1 _ _ _ _ _ _ _)
   | (with_reducible exact ih2 _ _ _ _ _ _ _)
   | (with_reducible exact ih3 _ _ _ _ _ _ _ _ _ _ _)
   | (with_reducible exact ih4 _ _ _ _ _ _ _ _ _ _ _)
   | (with_reducible exact impl_EightBack.mono _ _)
   | (with_reducible exact impl_FourBack.mono _ _)
   | (with_reducible exact impl_SmallBack.mono _ _ _ _)
   | (with_reducible exact impl_Unscanned.mono _ _ _)
   | (with_reducible exact impl_areLevels.mono _ _)
   | (with_reducible exact impl_quarter.mono _ _)
   | (with_reducible exact LeO.refl _)
   | (with_reducible exact LeO.none _)
   | (with_reducible refine LeO.ite ?_ ?_)
   | (with_reducible refine LeO.bind ?_ (fun _ => ?_))
   | exact ih0 _ _ _ _ _ _
   | exact ih1 _ _ _ _ _ _ _
   | exact ih2 _ _ _ _ _ _ _
   | exact ih3 _ _ _ _ _ _ _ _ _ _ _
   | exact ih4 _ _ _ _ _ _ _ _ _ _ _
   | exact impl_EightBack.mono _ _
   | exact impl_FourBack.mono _ _
   | exact impl_SmallBack.mono _ _ _ _
   | exact impl_Unscanned.mono _ _ _
   | exact impl_areLevels.mono _ _
   | exact impl_quarter.mono _ _
   | exact LeO.none _
   | refine LeO.ite ?_ ?_
   | refine LeO.bind ?_ (fun _ => ?_)
  ·intro y0 y1 y2 y3 y4 y5 y6
   unfold impl_LevelsBack.l1
   repeat' first
   | (with_reducible exact ih0 _ _ _ _ _ _)
   | (with_reducible exact ih1 _ _ _ _ _ _ _)
   | (with_reducible exact ih2 _ _ _ _ _ _ _)
   | (with_reducible exact ih3 _ _ _ _ _ _ _ _ _ _ _)
   | (with_reducible exact ih4 _ _ _ _ _ _ _ _ _ _ _)
   | (with_reducible exact impl_EightBack.mono _ _)
   | (with_reducible exact impl_FourBack.mono _ _)
   | (with_reducible exact impl_SmallBack.mono _ _ _ _)
   | (with_reducible exact impl_Unscanned.mono _ _ _)
   | (with_reducible exact impl_areLevels.mono _ _)
   | (with_reducible exact impl_quarter.mono _ _)
   | (with_reducible exact LeO.refl _)
   | (with_reducible exact LeO.none _)
   | (with_reducible refine LeO.ite ?_ ?_)
   | (with_reducible refine LeO.bind ?_ (fun _ => ?_))
   | exact ih0 _ _ _ _ _ _
   | exact ih1 _ _ _ _ _ _ _
   | exact ih2 _ _ _ _ _ _ _
   | exact ih3 _ _ _ _ _ _ _ _ _ _ _
   | exact ih4 _ _ _ _ _ _ _ _ _ _ _
   | exact impl_EightBack.mono _ _
   | exact impl_FourBack.mono _ _
   | exact impl_SmallBack.mono _ _ _ _
   | exact impl_Unscanned.mono _ _ _
   | exact impl_areLevels.mono _ _
   | exact impl_quarter.mono _ _
   | exact LeO.none _
   | refine LeO.ite ?_ ?_
   | refine LeO.bind ?_ (fun _ => ?_)
  ·intro y0 y1 y2 y3 y4 y5 y6 y7 y8 y9 y10
   unfold impl_LevelsBack.l2
   repeat' first
   | (with_reducible exact ih0 _ _ _ _ _ _)
   | (with_reducible exact ih1 _ _ _ _ _ _ _)
   | (with_reducible exact ih2 _ _ _ _ _ _ _)
   | (with_reducible exact ih3 _ _ _ _ _ _ _ _ _ _ _)
   | (with_reducible exact ih4 _ _ _ _ _ _ _ _ _ _ _)
   | (with_reducible exact impl_EightBack.mono _ _)
   | (with_reducible exact impl_FourBack.mono _ _)
   | (with_reducible exact impl_SmallBack.mono _ _ _ _)
   | (with_reducible exact impl_Unscanned.mono _ _ _)
   | (with_reducible exact impl_areLevels.mono _ _)
   | (with_reducible exact impl_quarter.mono _ _)
   | (with_reducible exact LeO.refl _)
   | (with_reducible exact LeO.none _)
   | (with_reducible refine LeO.ite ?_ ?_)
   | (with_reducible refine LeO.bind ?_ (fun _ => ?_))
   | exact ih0 _ _ _ _ _ _
   | exact ih1 _ _ _ _ _ _ _
   | exact ih2 _ _ _ _ _ _ _
   | exact ih3 _ _ _ _ _ _ _ _ _ _ _
   | exact ih4 _ _ _ _ _ _ _ _ _ _ _
   | exact impl_EightBack.mono _ _
   | exact impl_FourBack.mono _ _
   | exact impl_SmallBack.mono _ _ _ _
   | exact impl_Unscanned.mono _ _ _
   | exact impl_areLevels.mono _ _
   | exact impl_quarter.mono _ _
   | exact LeO.none _
   | refine LeO.ite ?_ ?_
   | refine LeO.bind ?_ (fun _ => ?_)
  ·intro y0 y1 y2 y3 y4 y5 y6 y7 y8 y9 y10
   unfold impl_LevelsBack.l3
   repeat' first
   | (with_reducible exact ih0 _ _ _ _ _ _)
   | (with_reducible exact ih1 _ _ _ _ _ _ _)
   | (with_reducible exact ih2 _ _ _ _ _ _ _)
   | (with_reducible exact ih3 _ _ _ _ _ _ _ _ _ _ _)
   | (with_reducible exact ih4 _ _ _ _ _ _ _ _ _ _ _)
   | (with_reducible exact impl_EightBack.mono _ _)
   | (with_reducible exact impl_FourBack.mono _ _)
   | (with_reducible exact impl_SmallBack.mono _ _ _ _)
   | (with_reducible exact impl_Unscanned.mono _ _ _)
   | (with_reducible exact impl_areLevels.mono _ _)
   | (with_reducible exact impl_quarter.mono _ _)
   | (with_reducible exact LeO.refl _)
   | (with_reducible exact LeO.none _)
   | (with_reducible refine LeO.ite ?_ ?_)
   | (with_reducible refine LeO.bind ?_ (fun _ => ?_))
   | exact ih0 _ _ _ _ _ _
   | exact ih1 _ _ _ _ _ _ _
   | exact ih2 _ _ _ _ _ _ _
   | exact ih3 _ _ _ _ _ _ _ _ _ _ _
   | exact ih4 _ _ _ _ _ _ _ _ _ _ _
   | exact impl_EightBack.mono _ _
   | exact impl_FourBack.mono _ _
   | exact impl_SmallBack.mono _ _ _ _
   | exact impl_Unscanned.mono _ _ _
   | exact impl_areLevels.mono _ _
   | exact impl_quarter.mono _ _
   | exact LeO.none _
   | refine LeO.ite ?_ ?_
   | refine LeO.bind ?_ (fun _ => ?_)
theorem impl_LevelsBack.mono : ∀ a0 a1 a2 a3 a4 k, LeO (impl_LevelsBack.f k a0 a1 a2 a3 a4) (impl_LevelsBack.f (k + 1) a0 a1 a2 a3 a4) := by
 intro a0 a1 a2 a3 a4 k
 obtain ⟨ih0, ih1, ih2, ih3, ih4⟩ := impl_LevelsBack.mono_l k
 unfold impl_LevelsBack.f
 repeat' first
   | (with_reducible exact ih0 _ _ _ _ _ _)
   | (with_reducible exact ih1 _ _ _ _ _ _ _)
   | (with_reducible exact ih2 _ _ _ _ _ _ _)
   | (with_reducible exact ih3 _ _ _ _ _ _ _ _ _ _ _)
   | (with_reducible exact ih4 _ _ _ _ _ _ _ _ _ _ _)
   | (with_reducible exact impl_EightBack.mono _ _)
   | (with_reducible exact impl_FourBack.mono _ _)
   | (with_reducible exact impl_SmallBack.mono _ _ _ _)
   | (with_reducible exact impl_Unscanned.mono _ _ _)
   | (with_reducible exact impl_areLevels.mono _ _)
   | (with_reducible exact impl_quarter.mono _ _)
   | (with_reducible exact LeO.refl _)
   | (with_reducible exact LeO.none _)
   | (with_reducible refine LeO.ite ?_ ?_)
   | (with_reducible refine LeO.bind ?_ (fun _ => ?_))
   | exact ih0 _ _ _ _ _ _
   | exact ih1 _ _ _ _ _ _ _
   | exact ih2 _ _ _ _ _ _ _
   | exact ih3 _ _ _ _ _ _ _ _ _ _ _
   | exact ih4 _ _ _ _ _ _ _ _ _ _ _
   | exact impl_EightBack.mono _ _
   | exact impl_FourBack.mono _ _
   | exact impl_SmallBack.mono _ _ _ _
   | exact impl_Unscanned.mono _ _ _
   | exact impl_areLevels.mono _ _
   | exact impl_quarter.mono _ _
   | exact LeO.none _
   | refine LeO.ite ?_ ?_
   | refine LeO.bind ?_ (fun _ => ?_)
set_option maxHeartbeats 8000000 in
set_option maxRecDepth 100000 in
theorem impl_LevelsBack.calls (k : Nat) (A0 : Option Addr) (c0 : Nat) (l0 : List Int) (a1_0 : Bool) (a1_1 : Int) (a1_2 : Bool) (a1_3 : Bool) (r1 : List Int) (r2 : Bool) (w : World) (hr0 : Kd.C (Kd.int .i64) w A0 l0.length l0) (hc0 : l0.length ≤ c0) (h : impl_LevelsBack.f k l0 a1_0 a1_1 a1_2 a1_3 = some (r1, r2)) :
  Calls Try.prog 52 #[.slice A0 l0.length c0, .agg #[.bool a1_0, .int .i64 a1_1, .bool a1_2, .bool a1_3]] w fun e w' => ∃ v0_ : Value, e = .returned (.tuple #[v0_, .bool r2]) ∧ Kd.R (Kd.int .i64) 3 w' w.heap.size (fun _ => True) v0_ r1 ∧ Below w.heap.size w w' := by
 have hu40 := Try.underlying40
 have HR0 := Aside0.mk hr0
 have HC0 := Aside0.mk hc0
 clear hr0 hc0
 have HB := Aside0.mk (Below.refl w.heap.size w)
 have H : ((impl_areLevels.f k l0).bind fun t302 => (if t302 = true then ((impl_CondOk.f a1_0 a1_1 a1_2 a1_3).bind fun t303 => (impl_LevelsBack.j0 k l0 (!t303) a1_0 a1_1 a1_2 a1_3)) else (impl_LevelsBack.j0 k l0 true a1_0 a1_1 a1_2 a1_3))) = some (r1, r2) := h
 clear h
 have HC3 := Aside0.mk H
 clear H
 go_enter Try.func52, Try.ntmps52
 go_upto_region 1 with (first | ((with_reducible refine gate_dst (N := 3) rfl ?_); refine box_event ?hg (N := 3) ?hd (cs := #[.bool a1_0, .int .i64 a1_1, .bool a1_2, .bool a1_3]) (t := 40) ?hr ?_; (case hd => rfl); (case hg => rfl); (case hr => first | (go_simp; done) | (go_simp; rfl)); intro gb301 hg w4 hbox hb; have n0_ := Aside0.mk (below_step (by repeat (first | (with_reducible first | exact HB.out | apply below_alloc | apply pw_below_drewN | apply below_drew1) | exact HB.out)) hb); have n1_ := Aside0.mk (hbox); have n2_ := Aside0.mk ((by rw [hg]; exact (below_size (by repeat (first | (with_reducible first | exact HB.out | apply below_alloc | apply pw_below_drewN | apply below_drew1) | exact HB.out))) : w.heap.size ≤ gb301)); have n3_ := Aside0.mk ((by rw [hg]; exact (below_size (by repeat (first | (with_reducible first | exact HB.out | apply below_alloc | apply pw_below_drewN | apply below_drew1) | exact HB.out))) : w.heap.size ≤ gb301)); clear HB; have HB := n0_; have BK301 := n1_; have GW301 := n2_; have GE301 := n3_; clear n0_ n1_ n2_ n3_; clear hb hbox hg))
 (try simp only [Act.put, List.setIfInBounds_toArray, List.set_cons_zero, List.set_cons_succ])
 go_cut [26] (fun v26 wc => ∃ (kq : Nat) (x26_2 : Bool), v26 = .bool x26_2 ∧ Aside0 (impl_LevelsBack.j0 kq l0 x26_2 a1_0 a1_1 a1_2 a1_3 = some (r1, r2)) ∧ Aside0 (kq ≤ k) ∧ Aside0 (wc.heap[gb301]? = some (.cells #[.bool a1_0, .int .i64 a1_1, .bool a1_2, .bool a1_3] 40 (0, 0))) ∧ Aside0 (Below w.heap.size w wc))
 case first =>
  have H := HC3.out
  clear HC3
  replace H := Option.bind_eq_some_iff.mp H
  obtain ⟨t302, A50, H⟩ := H
  replace H : (if t302 = true then ((impl_CondOk.f a1_0 a1_1 a1_2 a1_3).bind fun t303 => (impl_LevelsBack.j0 k l0 (!t303) a1_0 a1_1 a1_2 a1_3)) else (impl_LevelsBack.j0 k l0 true a1_0 a1_1 a1_2 a1_3)) = some (r1, r2) := H
  have A5 := Aside0.mk A50
  clear A50
  by_cases c6 : t302 = true
  ·subst c6
   have H1 : ((impl_CondOk.f a1_0 a1_1 a1_2 a1_3).bind fun t303 => (impl_LevelsBack.j0 k l0 (!t303) a1_0 a1_1 a1_2 a1_3)) = some (r1, r2) := by rw [if_pos rfl] at H; exact H
   clear H
   have H := H1
   clear H1
   replace H := Option.bind_eq_some_iff.mp H
   obtain ⟨t303, A70, H⟩ := H
   replace H : (impl_LevelsBack.j0 k l0 (!t303) a1_0 a1_1 a1_2 a1_3) = some (r1, r2) := H
   have A7 := Aside0.mk A70
   clear A70
   have H' := Aside0.mk H
   clear H
   go_wp2_with (first | ((with_reducible refine gate_callee (f := 94) rfl ?_); refine goesL_ (some 20) rfl rfl Try.func94 (by kernel_rfl) rfl #[.slice A0 l0.length c0] rfl (by (try simp only [List.map_toArray, List.map_cons, List.map_nil]); first | done | rfl | (simp only [List.length_drop, List.length_take]; rfl)) ?_; (with_reducible refine (impl_areLevels.calls k _ _ l0 true _ ?side1 ?side2 A5.out).mono ?_); (case side1 => repeat (first | exact (Kd.C_below HR0.out HB.out) | (with_reducible refine Kd.C_alloc ?_ _) | (with_reducible refine Kd.C_drewN ?_ _) | (with_reducible refine Kd.C_drew ?_))); (case side2 => exact HC0.out); rintro e w' ⟨rfl, ⟨nd, rfl⟩⟩; refine ⟨_, rfl, ?_⟩; have hcz8_0 : w4.cell? ⟨gb301, 0, none⟩ = some (.bool a1_0) := (blk_cell BK301.out 0).trans rfl; have hcz8_1 : w4.cell? ⟨gb301, 1, none⟩ = some (.int .i64 a1_1) := (blk_cell BK301.out 1).trans rfl; have hcz8_2 : w4.cell? ⟨gb301, 2, none⟩ = some (.bool a1_2) := (blk_cell BK301.out 2).trans rfl; have hcz8_3 : w4.cell? ⟨gb301, 3, none⟩ = some (.bool a1_3) := (blk_cell BK301.out 3).trans rfl; have hfz8_0 := blk_frozen BK301.out 0; have hfz8_1 := blk_frozen BK301.out 1; have hfz8_2 := blk_frozen BK301.out 2; have hfz8_3 := blk_frozen BK301.out 3) | (go_at_call 58; (with_reducible refine (impl_CondOk.calls a1_0 a1_1 a1_2 a1_3 t303 _ A7.out).mono ?_); rintro e w9 ⟨rfl, hb⟩; have n0_ := Aside0.mk (blk_below (g := gb301) (o := .cells #[.bool a1_0, .int .i64 a1_1, .bool a1_2, .bool a1_3] 40 (0, 0)) (by (with_reducible repeat (first | refine blk_drewN ?_ _ | refine blk_drew ?_ | refine blk_alloc ?_ _)); exact BK301.out) hb); have n1_ := Aside0.mk (below_step (by repeat (first | (with_reducible first | exact HB.out | apply below_alloc | apply pw_below_drewN | apply below_drew1 | refine below_set ?_ GE301.out) | exact HB.out)) hb); clear BK301; clear HB; have BK301 := n0_; have HB := n1_; clear n0_ n1_; (try clear hb); (try clear hb2); (try clear hk); (try clear hi)))
   go_meet
   case rel => exact ⟨_, (!t303), (by first | rfl | (simp; done) | (simp [*]; done)), H', ⟨by first | omega | exact Nat.le_refl _⟩, ⟨by (with_reducible repeat (first | refine blk_drewN ?_ _ | refine blk_drew ?_ | refine blk_alloc ?_ _)); exact BK301.out⟩, ⟨by repeat (first | (with_reducible first | exact HB.out | apply below_alloc | apply pw_below_drewN | apply below_drew1 | refine below_set ?_ GE301.out) | exact HB.out)⟩⟩
  ·replace c6 := Bool.eq_false_iff.mpr c6
   subst c6
   have H1 : (impl_LevelsBack.j0 k l0 true a1_0 a1_1 a1_2 a1_3) = some (r1, r2) := by rw [if_neg (show ¬ (false = true) by decide)] at H; exact H
   clear H
   have H := H1
   clear H1
   have H' := Aside0.mk H
   clear H
   go_wp2_with (first | ((with_reducible refine gate_callee (f := 94) rfl ?_); refine goesL_ (some 20) rfl rfl Try.func94 (by kernel_rfl) rfl #[.slice A0 l0.length c0] rfl (by (try simp only [List.map_toArray, List.map_cons, List.map_nil]); first | done | rfl | (simp only [List.length_drop, List.length_take]; rfl)) ?_; (with_reducible refine (impl_areLevels.calls k _ _ l0 false _ ?side1 ?side2 A5.out).mono ?_); (case side1 => repeat (first | exact (Kd.C_below HR0.out HB.out) | (with_reducible refine Kd.C_alloc ?_ _) | (with_reducible refine Kd.C_drewN ?_ _) | (with_reducible refine Kd.C_drew ?_))); (case side2 => exact HC0.out); rintro e w' ⟨rfl, ⟨nd, rfl⟩⟩; refine ⟨_, rfl, ?_⟩))
   go_meet
   case rel => exact ⟨_, (true), (by first | rfl | (simp; done) | (simp [*]; done)), H', ⟨by first | omega | exact Nat.le_refl _⟩, ⟨by (with_reducible repeat (first | refine blk_drewN ?_ _ | refine blk_drew ?_ | refine blk_alloc ?_ _)); exact BK301.out⟩, ⟨by repeat (first | (with_reducible first | exact HB.out | apply below_alloc | apply pw_below_drewN | apply below_drew1 | refine below_set ?_ GE301.out) | exact HB.out)⟩⟩
 case rest =>
  clear HC3
  try clear p2
  try clear c5
  try clear c6
  try clear c9
  try clear hcz8_0
  try clear hcz8_1
  try clear hcz8_2
  try clear hcz8_3
  try clear hfz8_0
  try clear hfz8_1
  try clear hfz8_2
  try clear hfz8_3
  obtain ⟨kq, x26_2, rfl, HA, HJ2, BK301, HB⟩ := hcut
  cases kq with
  | zero => exact absurd HA.out (by simp [impl_LevelsBack.j0])
  | succ kj2 =>
   have H := HA.out
   clear HA
   simp only [impl_LevelsBack.j0] at H
   by_cases c10 : x26_2 = true
   ·subst c10
    have H1 : (some ((([] : List Int)), false)) = some (r1, r2) := by rw [if_pos rfl] at H; exact H
    clear H
    have H := H1
    clear H1
    obtain ⟨y304, hy304⟩ : ∃ y_ : List Int, y_ = (([] : List Int)) := ⟨_, rfl⟩
    replace H : (some (y304, false)) = some (r1, r2) := by first | (rw [hy304]; with_reducible exact H) | (have H2_ := (Option.bind_some _ _).symm.trans H; rw [hy304]; with_reducible exact H2_) | (have H2_ := (Option.bind_some _ _).symm.trans H; with_reducible exact H2_) | with_reducible exact H | (rw [hy304]; exact H) | exact H
    have Ny304 := Aside0.mk hy304
    clear hy304
    simp only [Option.some.injEq, Prod.mk.injEq] at H
    obtain ⟨rfl, rfl⟩ := H
    go_wp2_with (first | ((with_reducible refine gate_dst (N := 27) rfl ?_); refine Kd.R_lit (Kd.int .i64) _ 3 ?hg (N := 27) ?hd (xs := ([] : List Int)) (inner := []) (ok := fun _ => True) (okp := fun _ => True) ?hr ?hp (fun _ hk => hk) trivial (Below.refl _ _) (Nat.le_refl _) (by simp) ?_; (case hd => rfl); (case hg => rfl); (case hr => first | (go_simp; done) | (go_simp; rfl)); (case hp => exact (Reps.none _ _)); intro v305 w11 ho12 hb hg_ hnew_; clear hg_ hnew_; (first | rw [← Ny304.out] at ho12 | (simp only [Int.reduceToNat] at ho12; rw [← Ny304.out] at ho12)); have n0_ := Aside0.mk (Kd.R_lower ho12 (below_size (by repeat (first | (with_reducible first | exact HB.out | apply below_alloc | apply pw_below_drewN | apply below_drew1 | refine below_set ?_ GE301.out) | exact HB.out)))); have n1_ := Aside0.mk (blk_below (g := gb301) (o := .cells #[.bool a1_0, .int .i64 a1_1, .bool a1_2, .bool a1_3] 40 (0, 0)) (by (with_reducible repeat (first | refine blk_drewN ?_ _ | refine blk_drew ?_ | refine blk_alloc ?_ _)); exact BK301.out) hb); have n2_ := Aside0.mk (below_step (by repeat (first | (with_reducible first | exact HB.out | apply below_alloc | apply pw_below_drewN | apply below_drew1 | refine below_set ?_ GE301.out) | exact HB.out)) hb); clear BK301; clear HB; have HO306 := n0_; have BK301 := n1_; have HB := n2_; clear n0_ n1_ n2_; clear hb ho12))
    go_ret2
    exact ⟨_, by first | rfl | (simp [errW_none, errW_some] <;> rfl) | (simp [*, errW_none, errW_some] <;> rfl), by (with_reducible repeat (first | apply Kd.R_alloc | apply Kd.R_drewN | apply Kd.R_drew)); exact HO306.out, by repeat (first | (with_reducible first | exact HB.out | apply below_alloc | apply pw_below_drewN | apply below_drew1 | refine below_set ?_ GE301.out) | exact HB.out)⟩
   ·replace c10 := Bool.eq_false_iff.mpr c10
    subst c10
    have H1 : (if a1_3 = true then ((impl_Unscanned.f kj2 8 l0).bind fun bt307 => (some (bt307.1, bt307.2))) else (if a1_2 = true then ((impl_Unscanned.f kj2 8 l0).bind fun bt311 => (impl_LevelsBack.l0 kj2 bt311.1 (bt311.1.length : Int) 0 a1_0 a1_1 a1_2 a1_3)) else (if 64 ≤ 35184372088832 then (impl_LevelsBack.l1 kj2 l0 (List.replicate 64 0) 0 a1_0 a1_1 a1_2 a1_3) else (none)))) = some (r1, r2) := by rw [if_neg (show ¬ (false = true) by decide)] at H; exact H
    clear H
    have H := H1
    clear H1
    by_cases c13 : a1_3 = true
    ·subst c13
     have H1 : ((impl_Unscanned.f kj2 8 l0).bind fun bt307 => (some (bt307.1, bt307.2))) = some (r1, r2) := by rw [if_pos rfl] at H; exact H
     clear H
     have H := H1
     clear H1
     replace H := Option.bind_eq_some_iff.mp H
     obtain ⟨⟨t307, t308⟩, A140, H⟩ := H
     replace H : (some (t307, t308)) = some (r1, r2) := H
     have A14 := Aside0.mk A140
     clear A140
     simp only [Option.some.injEq, Prod.mk.injEq] at H
     obtain ⟨rfl, rfl⟩ := H
     have hcz15_0 : wc.cell? ⟨gb301, 0, none⟩ = some (.bool a1_0) := (blk_cell BK301.out 0).trans rfl
     have hcz15_1 : wc.cell? ⟨gb301, 1, none⟩ = some (.int .i64 a1_1) := (blk_cell BK301.out 1).trans rfl
     have hcz15_2 : wc.cell? ⟨gb301, 2, none⟩ = some (.bool a1_2) := (blk_cell BK301.out 2).trans rfl
     have hcz15_3 : wc.cell? ⟨gb301, 3, none⟩ = some (.bool true) := (blk_cell BK301.out 3).trans rfl
     have hfz15_0 := blk_frozen BK301.out 0
     have hfz15_1 := blk_frozen BK301.out 1
     have hfz15_2 := blk_frozen BK301.out 2
     have hfz15_3 := blk_frozen BK301.out 3
     go_wp2_with (first | ((with_reducible refine gate_callee (f := 108) rfl ?_); refine goesL_ (some 31) rfl rfl Try.func108 (by kernel_rfl) rfl #[.int .i64 8, .slice A0 l0.length c0] rfl (by (try simp only [List.map_toArray, List.map_cons, List.map_nil]); first | done | rfl | (simp only [List.length_drop, List.length_take]; rfl)) ?_; (with_reducible refine (impl_Unscanned.calls kj2 8 _ _ l0 t307 t308 _ ?side1 ?side2 A14.out).mono ?_); (case side1 => repeat (first | exact (Kd.C_below HR0.out HB.out) | (with_reducible refine Kd.C_alloc ?_ _) | (with_reducible refine Kd.C_drewN ?_ _) | (with_reducible refine Kd.C_drew ?_))); (case side2 => exact HC0.out); rintro e w16 ⟨v309, rfl, ho0, hb⟩; refine ⟨_, rfl, ?_⟩; have n0_ := Aside0.mk (Kd.R_lower ho0 (below_size (by repeat (first | (with_reducible first | exact HB.out | apply below_alloc | apply pw_below_drewN | apply below_drew1 | refine below_set ?_ GE301.out) | exact HB.out)))); have n1_ := Aside0.mk (blk_below (g := gb301) (o := .cells #[.bool a1_0, .int .i64 a1_1, .bool a1_2, .bool true] 40 (0, 0)) (by (with_reducible repeat (first | refine blk_drewN ?_ _ | refine blk_drew ?_ | refine blk_alloc ?_ _)); exact BK301.out) hb); have n2_ := Aside0.mk (below_step (by repeat (first | (with_reducible first | exact HB.out | apply below_alloc | apply pw_below_drewN | apply below_drew1 | refine below_set ?_ GE301.out) | exact HB.out)) hb); clear BK301; clear HB; have HO310 := n0_; have BK301 := n1_; have HB := n2_; clear n0_ n1_ n2_; (try clear hb); (try clear hb2); (try clear hk); (try clear hi); (try clear ho0)))
     go_ret2
     exact ⟨_, by first | rfl | (simp [errW_none, errW_some] <;> rfl) | (simp [*, errW_none, errW_some] <;> rfl), by (with_reducible repeat (first | apply Kd.R_alloc | apply Kd.R_drewN | apply Kd.R_drew)); exact HO310.out, by repeat (first | (with_reducible first | exact HB.out | apply below_alloc | apply pw_below_drewN | apply below_drew1 | refine below_set ?_ GE301.out) | exact HB.out)⟩
    ·replace c13 := Bool.eq_false_iff.mpr c13
     subst c13
     have H1 : (if a1_2 = true then ((impl_Unscanned.f kj2 8 l0).bind fun bt311 => (impl_LevelsBack.l0 kj2 bt311.1 (bt311.1.length : Int) 0 a1_0 a1_1 a1_2 false)) else (if 64 ≤ 35184372088832 then (impl_LevelsBack.l1 kj2 l0 (List.replicate 64 0) 0 a1_0 a1_1 a1_2 false) else (none))) = some (r1, r2) := by rw [if_neg (show ¬ (false = true) by decide)] at H; exact H
     clear H
     have H := H1
     clear H1
     by_cases c17 : a1_2 = true
     ·subst c17
      have H1 : ((impl_Unscanned.f kj2 8 l0).bind fun bt311 => (impl_LevelsBack.l0 kj2 bt311.1 (bt311.1.length : Int) 0 a1_0 a1_1 true false)) = some (r1, r2) := by rw [if_pos rfl] at H; exact H
      clear H
      have H := H1
      clear H1
      replace H := Option.bind_eq_some_iff.mp H
      obtain ⟨⟨t311, t312⟩, A180, H⟩ := H
      replace H : (impl_LevelsBack.l0 kj2 t311 (t311.length : Int) 0 a1_0 a1_1 true false) = some (r1, r2) := H
      have A18 := Aside0.mk A180
      clear A180
      have H' := Aside0.mk H
      clear H
      have hcz19_0 : wc.cell? ⟨gb301, 0, none⟩ = some (.bool a1_0) := (blk_cell BK301.out 0).trans rfl
      have hcz19_1 : wc.cell? ⟨gb301, 1, none⟩ = some (.int .i64 a1_1) := (blk_cell BK301.out 1).trans rfl
      have hcz19_2 : wc.cell? ⟨gb301, 2, none⟩ = some (.bool true) := (blk_cell BK301.out 2).trans rfl
      have hcz19_3 : wc.cell? ⟨gb301, 3, none⟩ = some (.bool false) := (blk_cell BK301.out 3).trans rfl
      have hfz19_0 := blk_frozen BK301.out 0
      have hfz19_1 := blk_frozen BK301.out 1
      have hfz19_2 := blk_frozen BK301.out 2
      have hfz19_3 := blk_frozen BK301.out 3
      go_wp2_with (first | ((with_reducible refine gate_callee (f := 108) rfl ?_); refine goesL_ (some 38) rfl rfl Try.func108 (by kernel_rfl) rfl #[.int .i64 8, .slice A0 l0.length c0] rfl (by (try simp only [List.map_toArray, List.map_cons, List.map_nil]); first | done | rfl | (simp only [List.length_drop, List.length_take]; rfl)) ?_; (with_reducible refine (impl_Unscanned.calls kj2 8 _ _ l0 t311 t312 _ ?side1 ?side2 A18.out).mono ?_); (case side1 => repeat (first | exact (Kd.C_below HR0.out HB.out) | (with_reducible refine Kd.C_alloc ?_ _) | (with_reducible refine Kd.C_drewN ?_ _) | (with_reducible refine Kd.C_drew ?_))); (case side2 => exact HC0.out); rintro e w20 ⟨v313, rfl, ho0, hb⟩; refine ⟨_, rfl, ?_⟩; have n0_ := Aside0.mk (Kd.R_lower ho0 (below_size (by repeat (first | (with_reducible first | exact HB.out | apply below_alloc | apply pw_below_drewN | apply below_drew1 | refine below_set ?_ GE301.out) | exact HB.out)))); have n1_ := Aside0.mk (blk_below (g := gb301) (o := .cells #[.bool a1_0, .int .i64 a1_1, .bool true, .bool false] 40 (0, 0)) (by (with_reducible repeat (first | refine blk_drewN ?_ _ | refine blk_drew ?_ | refine blk_alloc ?_ _)); exact BK301.out) hb); have n2_ := Aside0.mk (below_step (by repeat (first | (with_reducible first | exact HB.out | apply below_alloc | apply pw_below_drewN | apply below_drew1 | refine below_set ?_ GE301.out) | exact HB.out)) hb); clear BK301; clear HB; have HO314 := n0_; have BK301 := n1_; have HB := n2_; clear n0_ n1_ n2_; (try clear hb); (try clear hb2); (try clear hk); (try clear hi); (try clear ho0); obtain ⟨Ao21, co21, eo21⟩ := Kd.R_slice HO314.out; subst eo21))
      go_loopg [43] kj2 (fun kq v43 w' => ∃ (x6_2 : List Int) (x43_2 : Int), v43 = .int .i64 x43_2 ∧ Aside0 (impl_LevelsBack.l0 kq x6_2 (t311.length : Int) x43_2 a1_0 a1_1 true false = some (r1, r2)) ∧ Aside0 (kq ≤ kj2) ∧ Aside0 (Kd.R (Kd.int .i64) 3 w' w.heap.size (fun _ => True) (.slice Ao21 t311.length co21) x6_2) ∧ Aside0 (w'.heap[gb301]? = some (.cells #[.bool a1_0, .int .i64 a1_1, .bool true, .bool false] 40 (0, 0))) ∧ Aside0 (Below w.heap.size w w'))
      case atStart => exact ⟨(t311), (0), (by first | rfl | (simp; done) | (simp [*]; done)), H', ⟨Nat.le_refl _⟩, ⟨by (with_reducible repeat (first | apply Kd.R_alloc | apply Kd.R_drewN | apply Kd.R_drew)); exact HO314.out⟩, ⟨by (with_reducible repeat (first | refine blk_drewN ?_ _ | refine blk_drew ?_ | refine blk_alloc ?_ _)); exact BK301.out⟩, ⟨by repeat (first | (with_reducible first | exact HB.out | apply below_alloc | apply pw_below_drewN | apply below_drew1 | refine below_set ?_ GE301.out) | exact HB.out)⟩⟩
      case round =>
       clear H'
       try clear c1
       try clear p2
       try clear c5
       try clear c6
       try clear c9
       try clear c10
       try clear c13
       try clear c17
       try clear hcz15_0
       try clear hcz15_1
       try clear hcz15_2
       try clear hcz15_3
       try clear hcz19_0
       try clear hcz19_1
       try clear hcz19_2
       try clear hcz19_3
       try clear hcz8_0
       try clear hcz8_1
       try clear hcz8_2
       try clear hcz8_3
       try clear hfz15_0
       try clear hfz15_1
       try clear hfz15_2
       try clear hfz15_3
       try clear hfz19_0
       try clear hfz19_1
       try clear hfz19_2
       try clear hfz19_3
       try clear hfz8_0
       try clear hfz8_1
       try clear hfz8_2
       try clear hfz8_3
       try clear p2
       obtain ⟨x6_2, x43_2, rfl, HA, HK2, HO_6, BK301, HB⟩ := hrel
       have hl6_2 := (Kd.R_reads' HO_6.out).1
       rw [hl6_2] at HO_6
       (try simp only [hl6_2])
       (try simp only [hl6_2] at BK301)
       cases gk with
       | zero => exact absurd HA.out (by simp [impl_LevelsBack.l0])
       | succ k2 =>
        have H := HA.out
        clear HA
        simp only [impl_LevelsBack.l0] at H
        by_cases c22 : x43_2 < (t311.length : Int)
        ·rw [if_pos c22] at H
         have c22b0 : decide (x43_2 < (t311.length : Int)) = true := decide_eq_true c22
         (try (have c22b0h := c22b0; simp only [hl6_2] at c22b0h))
         clear c22
         by_cases c23 : 0 ≤ x43_2
         ·rw [if_pos c23] at H
          have c23b0 : decide (0 ≤ x43_2) = true := decide_eq_true c23
          (try (have c23b0h := c23b0; simp only [hl6_2] at c23b0h))
          clear c23
          by_cases c24 : x43_2 < (x6_2.length : Int)
          ·rw [if_pos c24] at H
           have c24b0 : decide (x43_2 < (x6_2.length : Int)) = true := decide_eq_true c24
           (try (have c24b0h := c24b0; simp only [hl6_2] at c24b0h))
           clear c24
           replace H := Option.bind_eq_some_iff.mp H
           obtain ⟨t316, A250, H⟩ := H
           replace H : (impl_LevelsBack.l0 k2 (x6_2.set (x43_2 : Int).toNat t316) (t311.length : Int) (wrap64 (x43_2 + 1)) a1_0 a1_1 true false) = some (r1, r2) := H
           have A25 := Aside0.mk A250
           clear A250
           obtain ⟨y317, hy317⟩ : ∃ y_ : List Int, y_ = (x6_2.set (x43_2 : Int).toNat t316) := ⟨_, rfl⟩
           replace H : (impl_LevelsBack.l0 k2 y317 (t311.length : Int) (wrap64 (x43_2 + 1)) a1_0 a1_1 true false) = some (r1, r2) := by first | (rw [hy317]; with_reducible exact H) | (have H2_ := (Option.bind_some _ _).symm.trans H; rw [hy317]; with_reducible exact H2_) | (have H2_ := (Option.bind_some _ _).symm.trans H; with_reducible exact H2_) | with_reducible exact H | (rw [hy317]; exact H) | exact H
           have Ny317 := Aside0.mk hy317
           clear hy317
           have H' := Aside0.mk H
           clear H
           have p315 : 0 ≤ (x43_2 : Int) := of_decide_eq_true (by first | (with_reducible assumption) | assumption)
           have q315 : x43_2 < (x6_2.length : Int) := of_decide_eq_true (by first | (with_reducible assumption) | assumption)
           obtain ⟨ad315, e315, hx315_0⟩ := Kd.at_int (Kd.R_reads' HO_6.out).2.2 x43_2 p315 q315
           cases e315
           replace p315 := eq_true p315
           replace q315 := eq_true q315
           have hcz27_0 : wr.cell? ⟨gb301, 0, none⟩ = some (.bool a1_0) := (blk_cell BK301.out 0).trans rfl
           have hcz27_1 : wr.cell? ⟨gb301, 1, none⟩ = some (.int .i64 a1_1) := (blk_cell BK301.out 1).trans rfl
           have hcz27_2 : wr.cell? ⟨gb301, 2, none⟩ = some (.bool true) := (blk_cell BK301.out 2).trans rfl
           have hcz27_3 : wr.cell? ⟨gb301, 3, none⟩ = some (.bool false) := (blk_cell BK301.out 3).trans rfl
           have hfz27_0 := blk_frozen BK301.out 0
           have hfz27_1 := blk_frozen BK301.out 1
           have hfz27_2 := blk_frozen BK301.out 2
           have hfz27_3 := blk_frozen BK301.out 3
           go_wp2_with (first | ((with_reducible refine gate_callee (f := 109) rfl ?_); refine goesL_ (some 53) rfl rfl Try.func109 (by kernel_rfl) rfl #[.int .i64 (rd x6_2 x43_2), .int .i64 a1_1] rfl (by (try simp only [List.map_toArray, List.map_cons, List.map_nil]); first | done | rfl | (simp only [List.length_drop, List.length_take]; rfl)) ?_; (with_reducible refine (impl_LargeBack.calls (rd x6_2 x43_2) a1_1 t316 _ A25.out).mono ?_); rintro e w28 ⟨rfl, hb⟩; refine ⟨_, rfl, ?_⟩; have n0_ := Aside0.mk (Kd.R_below (by (with_reducible repeat (first | apply Kd.R_alloc | apply Kd.R_drewN | apply Kd.R_drew)); exact HO_6.out) hb); have n1_ := Aside0.mk (blk_below (g := gb301) (o := .cells #[.bool a1_0, .int .i64 a1_1, .bool true, .bool false] 40 (0, 0)) (by (with_reducible repeat (first | refine blk_drewN ?_ _ | refine blk_drew ?_ | refine blk_alloc ?_ _)); exact BK301.out) hb); have n2_ := Aside0.mk (below_step (by repeat (first | (with_reducible first | exact HB.out | apply below_alloc | apply pw_below_drewN | apply below_drew1 | refine below_set ?_ GE301.out) | exact HB.out)) hb); clear HO_6; clear BK301; clear HB; have HO_6 := n0_; have BK301 := n1_; have HB := n2_; clear n0_ n1_ n2_; (try clear hb); (try clear hb2); (try clear hk); (try clear hi); have p26 : 0 ≤ (x43_2 : Int) := of_decide_eq_true (by first | (with_reducible assumption) | assumption); have q26 : (x43_2 : Int) < ((x6_2.length : Int) : Int) := of_decide_eq_true (by first | (with_reducible assumption) | assumption); obtain ⟨go26, co26, eo26, gb26, gl26, cl26, HG26⟩ := Kd.R_form HO_6.out (by omega); (first | cases eo26 | (injection eo26 with ea_ en_ ec_; (first | subst ea_ | (injection ea_ with ea_; subst ea_)); subst ec_; clear en_)); have GB26 := Aside0.mk gb26; have GG26 := Aside0.mk HG26; clear gb26 gl26 HG26; (first | simp only [add_plain] at hx315_0 | skip); obtain ⟨hx26_0, hf26_0⟩ := Kd.R_celln 0 HO_6.out (x43_2 : Int) p26 q26; replace p26 := eq_true p26; replace q26 := eq_true q26; obtain ⟨hy29_, hz29_⟩ := Kd.R_celln 0 HO_6.out (x43_2 : Int) (of_decide_eq_true (by first | (with_reducible assumption) | assumption)) (of_decide_eq_true (by first | (with_reducible assumption) | assumption)); have HP29 := Kd.R_putg HO_6.out (x43_2 : Int) t316) | ((with_reducible refine gate_store (t := 3) (p := 54) rfl ?_); refine store_event (t := 3) (p := 54) (v := ?vo_w30) (w1 := (w28.setCell ⟨go26, (x43_2 : Int).toNat, none⟩ (.int .i64 t316))) ?hg ?ho ?hn ?hr ?_; (case ho => rfl); (case hg => rfl); (case hn => rfl); (case hr => first | (go_simp; done) | (go_simp; rfl)); intro w30 hw; have hg : w28.grownBy w30 (some go26) := (by rw [hw]; exact HP29.2); have hp_ : Kd.R (Kd.int .i64) 3 w30 w.heap.size (fun _ => True) (.slice (some ⟨go26, 0, none⟩) x6_2.length co21) y317 := (by rw [hw, Ny317.out]; exact HP29.1); clear HP29; have n0_ := Aside0.mk (hp_); have n1_ := Aside0.mk (blk_grown (g := gb301) (o := .cells #[.bool a1_0, .int .i64 a1_1, .bool true, .bool false] 40 (0, 0)) (by (with_reducible repeat (first | refine blk_drewN ?_ _ | refine blk_drew ?_ | refine blk_alloc ?_ _)); exact BK301.out) hg (Kd.R_ne HO_6.out BK301.out (by decide))); have n2_ := Aside0.mk ((by rw [hw]; exact below_set (HB.out) GB26.out : Below w.heap.size w w30)); clear HO_6; clear BK301; clear HB; have HO_6 := n0_; have BK301 := n1_; have HB := n2_; clear n0_ n1_ n2_; clear hg hw hp_))
           (try simp only [← hl6_2])
           go_roundg k2
           case measure => have := HJ2.out; have := HK2.out; omega
           case rel => exact ⟨(y317), (wrap64 (x43_2 + 1)), (by first | rfl | (simp; done) | (simp [*]; done)), H', ⟨by have := HJ2.out; have := HK2.out; omega⟩, ⟨by (try simp only [hl6_2]); (with_reducible repeat (first | apply Kd.R_alloc | apply Kd.R_drewN | apply Kd.R_drew)); exact HO_6.out⟩, ⟨by (try simp only [hl6_2]); (with_reducible repeat (first | refine blk_drewN ?_ _ | refine blk_drew ?_ | refine blk_alloc ?_ _)); exact BK301.out⟩, ⟨by repeat (first | (with_reducible first | exact HB.out | apply below_alloc | apply pw_below_drewN | apply below_drew1 | refine below_set ?_ GE301.out) | exact HB.out)⟩⟩
          ·rw [if_neg c24] at H
           exact absurd H (by simp)
         ·rw [if_neg c23] at H
          exact absurd H (by simp)
        ·rw [if_neg c22] at H
         have c22b0 : decide (x43_2 < (t311.length : Int)) = false := decide_eq_false c22
         (try (have c22b0h := c22b0; simp only [hl6_2] at c22b0h))
         clear c22
         replace H := Option.bind_eq_some_iff.mp H
         obtain ⟨t318, A310, H⟩ := H
         replace H : (some (t318, true)) = some (r1, r2) := H
         have A31 := Aside0.mk A310
         clear A310
         simp only [Option.some.injEq, Prod.mk.injEq] at H
         obtain ⟨rfl, rfl⟩ := H
         go_wp2_with (first | ((with_reducible refine gate_callee (f := 18) rfl ?_); refine goesL_ (some 57) rfl rfl Try.func18 (by kernel_rfl) rfl #[.slice Ao21 x6_2.length co21] rfl (by (try simp only [List.map_toArray, List.map_cons, List.map_nil]); first | done | rfl | (simp only [List.length_drop, List.length_take]; rfl)) ?_; (with_reducible refine (impl_EightBack.calls k2 _ _ x6_2 t318 _ ?side1 ?side2 A31.out).mono ?_); (case side1 => repeat (first | exact (Kd.R_reads' HO_6.out).2.2 | (with_reducible refine Kd.C_alloc ?_ _) | (with_reducible refine Kd.C_drewN ?_ _) | (with_reducible refine Kd.C_drew ?_))); (case side2 => exact (Kd.R_reads' HO_6.out).2.1); rintro e w32 ⟨v319, rfl, ho0, hb⟩; refine ⟨_, rfl, ?_⟩; have n0_ := Aside0.mk (Kd.R_elder' (by (with_reducible repeat (first | apply Kd.R_alloc | apply Kd.R_drewN | apply Kd.R_drew)); exact HO_6.out) (Kd.R_base ho0) hb); have n1_ := Aside0.mk (Kd.R_lower (Kd.R_new' ho0 (Kd.R_lt (by (with_reducible repeat (first | apply Kd.R_alloc | apply Kd.R_drewN | apply Kd.R_drew)); exact HO_6.out))) (below_size (by repeat (first | (with_reducible first | exact HB.out | apply below_alloc | apply pw_below_drewN | apply below_drew1 | refine below_set ?_ GE301.out) | exact HB.out)))); have n2_ := Aside0.mk (blk_below (g := gb301) (o := .cells #[.bool a1_0, .int .i64 a1_1, .bool true, .bool false] 40 (0, 0)) (by (with_reducible repeat (first | refine blk_drewN ?_ _ | refine blk_drew ?_ | refine blk_alloc ?_ _)); exact BK301.out) hb); have n3_ := Aside0.mk (below_step (by repeat (first | (with_reducible first | exact HB.out | apply below_alloc | apply pw_below_drewN | apply below_drew1 | refine below_set ?_ GE301.out) | exact HB.out)) hb); clear HO_6; clear BK301; clear HB; have HO_6 := n0_; have HO320 := n1_; have BK301 := n2_; have HB := n3_; clear n0_ n1_ n2_ n3_; (try clear hb); (try clear hb2); (try clear hk); (try clear hi); (try clear ho0)))
         go_ret2
         exact ⟨_, by first | rfl | (simp [errW_none, errW_some] <;> rfl) | (simp [*, errW_none, errW_some] <;> rfl), by (with_reducible repeat (first | apply Kd.R_alloc | apply Kd.R_drewN | apply Kd.R_drew)); exact Kd.R_mono HO320.out (fun _ hk => trivial), by repeat (first | (with_reducible first | exact HB.out | apply below_alloc | apply pw_below_drewN | apply below_drew1 | refine below_set ?_ GE301.out) | exact HB.out)⟩
     ·replace c17 := Bool.eq_false_iff.mpr c17
      subst c17
      have H1 : (if 64 ≤ 35184372088832 then (impl_LevelsBack.l1 kj2 l0 (List.replicate 64 0) 0 a1_0 a1_1 false false) else (none)) = some (r1, r2) := by rw [if_neg (show ¬ (false = true) by decide)] at H; exact H
      clear H
      have H := H1
      clear H1
      by_cases c33 : 64 ≤ 35184372088832
      ·rw [if_pos c33] at H
       have c33b0 := eq_true c33
       have c33b1 : decide (64 ≤ 35184372088832) = true := decide_eq_true c33
       clear c33
       obtain ⟨y321, hy321⟩ : ∃ y_ : List Int, y_ = (List.replicate 64 0) := ⟨_, rfl⟩
       replace H : (impl_LevelsBack.l1 kj2 l0 y321 0 a1_0 a1_1 false false) = some (r1, r2) := by first | (rw [hy321]; with_reducible exact H) | (have H2_ := (Option.bind_some _ _).symm.trans H; rw [hy321]; with_reducible exact H2_) | (have H2_ := (Option.bind_some _ _).symm.trans H; with_reducible exact H2_) | with_reducible exact H | (rw [hy321]; exact H) | exact H
       have Ny321 := Aside0.mk hy321
       clear hy321
       have H' := Aside0.mk H
       clear H
       have hcz34_0 : wc.cell? ⟨gb301, 0, none⟩ = some (.bool a1_0) := (blk_cell BK301.out 0).trans rfl
       have hcz34_1 : wc.cell? ⟨gb301, 1, none⟩ = some (.int .i64 a1_1) := (blk_cell BK301.out 1).trans rfl
       have hcz34_2 : wc.cell? ⟨gb301, 2, none⟩ = some (.bool false) := (blk_cell BK301.out 2).trans rfl
       have hcz34_3 : wc.cell? ⟨gb301, 3, none⟩ = some (.bool false) := (blk_cell BK301.out 3).trans rfl
       have hfz34_0 := blk_frozen BK301.out 0
       have hfz34_1 := blk_frozen BK301.out 1
       have hfz34_2 := blk_frozen BK301.out 2
       have hfz34_3 := blk_frozen BK301.out 3
       go_wp2_with (first | ((with_reducible refine gate_dst (N := 58) rfl ?_); refine Kd.R_make (Kd.int .i64) _ 3 rfl (N := 58) rfl 24 _ _ rfl 64 rfl rfl Try.underlying24 (.int .i64 0) 8 info3 rfl (by decide) (by omega) 0 (ok := fun _ => True) (okp := fun _ => True) rfl (fun _ hk => hk) trivial (by omega) (by omega) (Below.refl _ _) (Nat.le_refl _) ?_; intro v322 w35 ho36 hb hg_ hnew_; clear hg_ hnew_; (first | rw [← Ny321.out] at ho36 | (simp only [Int.reduceToNat] at ho36; rw [← Ny321.out] at ho36)); have n0_ := Aside0.mk (Kd.R_lower ho36 (below_size (by repeat (first | (with_reducible first | exact HB.out | apply below_alloc | apply pw_below_drewN | apply below_drew1 | refine below_set ?_ GE301.out) | exact HB.out)))); have n1_ := Aside0.mk (blk_below (g := gb301) (o := .cells #[.bool a1_0, .int .i64 a1_1, .bool false, .bool false] 40 (0, 0)) (by (with_reducible repeat (first | refine blk_drewN ?_ _ | refine blk_drew ?_ | refine blk_alloc ?_ _)); exact BK301.out) hb); have n2_ := Aside0.mk (below_step (by repeat (first | (with_reducible first | exact HB.out | apply below_alloc | apply pw_below_drewN | apply below_drew1 | refine below_set ?_ GE301.out) | exact HB.out)) hb); clear BK301; clear HB; have HO323 := n0_; have BK301 := n1_; have HB := n2_; clear n0_ n1_ n2_; clear hb ho36))
       go_loopg [59] kj2 (fun kq v59 w' => ∃ (x10_2 : List Int) (x59_2 : Int), v59 = .int .i64 x59_2 ∧ Aside0 (impl_LevelsBack.l1 kq l0 x10_2 x59_2 a1_0 a1_1 false false = some (r1, r2)) ∧ Aside0 (kq ≤ kj2) ∧ Aside0 (Kd.R (Kd.int .i64) 3 w' w.heap.size (fun _ => True) v322 x10_2) ∧ Aside0 (w'.heap[gb301]? = some (.cells #[.bool a1_0, .int .i64 a1_1, .bool false, .bool false] 40 (0, 0))) ∧ Aside0 (Below w.heap.size w w'))
       case atStart => exact ⟨(y321), (0), (by first | rfl | (simp; done) | (simp [*]; done)), H', ⟨Nat.le_refl _⟩, ⟨by (with_reducible repeat (first | apply Kd.R_alloc | apply Kd.R_drewN | apply Kd.R_drew)); exact HO323.out⟩, ⟨by (with_reducible repeat (first | refine blk_drewN ?_ _ | refine blk_drew ?_ | refine blk_alloc ?_ _)); exact BK301.out⟩, ⟨by repeat (first | (with_reducible first | exact HB.out | apply below_alloc | apply pw_below_drewN | apply below_drew1 | refine below_set ?_ GE301.out) | exact HB.out)⟩⟩
       case round =>
        clear H'
        try clear c1
        try clear c2
        try clear p2
        try clear q2
        try clear hx2
        try clear hf2
        try clear c3
        try clear p3
        try clear q3
        try clear hx3
        try clear c5
        try clear c6
        try clear p6
        try clear c9
        try clear c10
        try clear c13
        try clear c17
        try clear c18
        try clear c22
        try clear c22b0
        try clear c23
        try clear c23b0
        try clear c24
        try clear c24b0
        try clear p26
        try clear q26
        try clear hx26
        try clear hf26
        try clear p31
        try clear q31
        try clear hx31
        try clear c33
        try clear c33b0
        try clear c33b1
        try clear hcz15_0
        try clear hcz15_1
        try clear hcz15_2
        try clear hcz15_3
        try clear hcz19_0
        try clear hcz19_1
        try clear hcz19_2
        try clear hcz19_3
        try clear hcz27_0
        try clear hcz27_1
        try clear hcz27_2
        try clear hcz27_3
        try clear hcz34_0
        try clear hcz34_1
        try clear hcz34_2
        try clear hcz34_3
        try clear hcz8_0
        try clear hcz8_1
        try clear hcz8_2
        try clear hcz8_3
        try clear hfz15_0
        try clear hfz15_1
        try clear hfz15_2
        try clear hfz15_3
        try clear hfz19_0
        try clear hfz19_1
        try clear hfz19_2
        try clear hfz19_3
        try clear hfz27_0
        try clear hfz27_1
        try clear hfz27_2
        try clear hfz27_3
        try clear hfz34_0
        try clear hfz34_1
        try clear hfz34_2
        try clear hfz34_3
        try clear hfz8_0
        try clear hfz8_1
        try clear hfz8_2
        try clear hfz8_3
        try clear hx26_0
        try clear hx315_0
        try clear p2
        try clear p26
        try clear p315
        try clear q26
        try clear q315
        obtain ⟨x10_2, x59_2, rfl, HA, HK2, HO_10, BK301, HB⟩ := hrel
        cases gk with
        | zero => exact absurd HA.out (by simp [impl_LevelsBack.l1])
        | succ k2 =>
         have H := HA.out
         clear HA
         simp only [impl_LevelsBack.l1] at H
         by_cases c37 : x59_2 < 4
         ·rw [if_pos c37] at H
          have c37b0 : decide (x59_2 < 4) = true := decide_eq_true c37
          clear c37
          obtain ⟨ji38, hji38⟩ : ∃ j_ : Int, (wrap64 (16 * x59_2)) = j_ := ⟨_, rfl⟩
          replace H : (if 0 ≤ (ji38) then (if (ji38) ≤ (wrap64 ((ji38) + 16)) then (if (wrap64 ((ji38) + 16)) ≤ (l0.length : Int) then ((impl_Unscanned.f k2 4 ((l0.take ((wrap64 ((ji38) + 16)) : Int).toNat).drop ((ji38) : Int).toNat)).bind fun bt325 => (impl_LevelsBack.l2 k2 l0 x10_2 x59_2 bt325.1 x59_2 (bt325.1.length : Int) 0 a1_0 a1_1 false false)) else (none)) else (none)) else (none)) = some (r1, r2) := by first | (rw [hji38] at H; exact H) | (simp only [hji38] at H ⊢; exact H)
          have hji38w : (IntKind.i64.wrap (16 * x59_2)) = ji38 := (i64_w _).trans hji38
          by_cases c39 : 0 ≤ (ji38)
          ·rw [if_pos c39] at H
           have c39b0 := eq_true c39
           have c39b1 : decide (0 ≤ (ji38)) = true := decide_eq_true c39
           clear c39
           by_cases c40 : (ji38) ≤ (wrap64 ((ji38) + 16))
           ·rw [if_pos c40] at H
            have c40b0 := eq_true c40
            have c40b1 : decide ((ji38) ≤ (wrap64 ((ji38) + 16))) = true := decide_eq_true c40
            by_cases c41 : (wrap64 ((ji38) + 16)) ≤ (l0.length : Int)
            ·rw [if_pos c41] at H
             have c41b0 := eq_true c41
             have c41b1 : decide ((wrap64 ((ji38) + 16)) ≤ (l0.length : Int)) = true := decide_eq_true c41
             replace H := Option.bind_eq_some_iff.mp H
             obtain ⟨⟨t325, t326⟩, A420, H⟩ := H
             replace H : (impl_LevelsBack.l2 k2 l0 x10_2 x59_2 t325 x59_2 (t325.length : Int) 0 a1_0 a1_1 false false) = some (r1, r2) := H
             have A42 := Aside0.mk A420
             clear A420
             have H' := Aside0.mk H
             clear H
             obtain ⟨i043, hi043, _, hsz43, _⟩ := info_parts info3
             obtain ⟨A43, hcut43, hA43, hC43⟩ := print_mid_of (P := Try.prog) (Value.int .i64) 0 24 3 .i64 .i64 Try.underlying24 hi043 hsz43 A0 c0 l0 (ji38) (wrap64 ((ji38) + 16)) (of_decide_eq_true (by first | (with_reducible assumption) | assumption)) (by first | omega | exact of_decide_eq_true (by first | (with_reducible assumption) | assumption)) (of_decide_eq_true (by first | (with_reducible assumption) | assumption)) HC0.out
             have HR324 := Aside0.mk (Kd.C_of_reads (h1 := fun _ => rfl) (hA43 _ (Kd.reads_of_C HR0.out)))
             have HC324 := Aside0.mk hC43
             clear hA43 hC43 hi043 hsz43
             go_wp2_with (first | ((with_reducible refine gate_callee (f := 108) rfl ?_); refine goesL_ (some 70) rfl rfl Try.func108 (by kernel_rfl) rfl #[.int .i64 4, .slice A43 ((l0.take ((wrap64 ((ji38) + 16)) : Int).toNat).drop ((ji38) : Int).toNat).length (c0 - (ji38).toNat)] rfl (by (try simp only [List.map_toArray, List.map_cons, List.map_nil]); first | done | (rw [show ((l0.take ((wrap64 ((ji38) + 16)) : Int).toNat).drop ((ji38) : Int).toNat).length = ((wrap64 ((ji38) + 16)).toNat - (ji38).toNat) from (by rw [List.length_drop, List.length_take]; have h_ : ((wrap64 ((ji38) + 16)) : Int) ≤ (l0.length : Int) := of_decide_eq_true (by first | (with_reducible assumption) | assumption); omega)] <;> rfl) | (simp only [hji38]; rfl) | rfl | (simp only [List.length_drop, List.length_take]; rfl)) ?_; (with_reducible refine (impl_Unscanned.calls k2 4 _ _ ((l0.take ((wrap64 ((ji38) + 16)) : Int).toNat).drop ((ji38) : Int).toNat) t325 t326 _ ?side1 ?side2 A42.out).mono ?_); (case side1 => repeat (first | exact (Kd.C_below HR324.out HB.out) | (with_reducible refine Kd.C_alloc ?_ _) | (with_reducible refine Kd.C_drewN ?_ _) | (with_reducible refine Kd.C_drew ?_))); (case side2 => exact HC324.out); rintro e w44 ⟨v327, rfl, ho0, hb⟩; refine ⟨_, rfl, ?_⟩; have n0_ := Aside0.mk (Kd.R_elder' (by (with_reducible repeat (first | apply Kd.R_alloc | apply Kd.R_drewN | apply Kd.R_drew)); exact HO_10.out) (Kd.R_base ho0) hb); have n1_ := Aside0.mk (Kd.R_lower (Kd.R_new' ho0 (Kd.R_lt (by (with_reducible repeat (first | apply Kd.R_alloc | apply Kd.R_drewN | apply Kd.R_drew)); exact HO_10.out))) (below_size (by repeat (first | (with_reducible first | exact HB.out | apply below_alloc | apply pw_below_drewN | apply below_drew1 | refine below_set ?_ GE301.out) | exact HB.out)))); have n2_ := Aside0.mk (blk_below (g := gb301) (o := .cells #[.bool a1_0, .int .i64 a1_1, .bool false, .bool false] 40 (0, 0)) (by (with_reducible repeat (first | refine blk_drewN ?_ _ | refine blk_drew ?_ | refine blk_alloc ?_ _)); exact BK301.out) hb); have n3_ := Aside0.mk (below_step (by repeat (first | (with_reducible first | exact HB.out | apply below_alloc | apply pw_below_drewN | apply below_drew1 | refine below_set ?_ GE301.out) | exact HB.out)) hb); clear HO_10; clear BK301; clear HB; have HO_10 := n0_; have HO328 := n1_; have BK301 := n2_; have HB := n3_; clear n0_ n1_ n2_ n3_; (try clear hb); (try clear hb2); (try clear hk); (try clear hi); (try clear ho0); obtain ⟨Ao45, co45, eo45⟩ := Kd.R_slice HO328.out; subst eo45))
             go_loopg [75] k2 (fun kq v75 w' => ∃ (x12_3 : List Int) (x75_3 : Int), v75 = .int .i64 x75_3 ∧ Aside0 (impl_LevelsBack.l2 kq l0 x10_2 x59_2 x12_3 x59_2 (t325.length : Int) x75_3 a1_0 a1_1 false false = some (r1, r2)) ∧ Aside0 (kq ≤ k2) ∧ Aside0 (Kd.R (Kd.int .i64) 3 w' w.heap.size (fun k_ => some k_ ≠ ((.slice Ao45 t325.length co45) : Value).ownBlock) v322 x10_2) ∧ Aside0 (Kd.R (Kd.int .i64) 3 w' w.heap.size (fun k_ => some k_ ≠ (v322 : Value).ownBlock) (.slice Ao45 t325.length co45) x12_3) ∧ Aside0 (w'.heap[gb301]? = some (.cells #[.bool a1_0, .int .i64 a1_1, .bool false, .bool false] 40 (0, 0))) ∧ Aside0 (Below w.heap.size w w'))
             case atStart => exact ⟨(t325), (0), (by first | rfl | (simp; done) | (simp [*]; done)), H', ⟨Nat.le_refl _⟩, ⟨by (with_reducible repeat (first | apply Kd.R_alloc | apply Kd.R_drewN | apply Kd.R_drew)); exact Kd.R_mono HO_10.out (fun _ hk => hk.2)⟩, ⟨by (with_reducible repeat (first | apply Kd.R_alloc | apply Kd.R_drewN | apply Kd.R_drew)); exact Kd.R_mono HO328.out (fun _ hk => hk.2)⟩, ⟨by (with_reducible repeat (first | refine blk_drewN ?_ _ | refine blk_drew ?_ | refine blk_alloc ?_ _)); exact BK301.out⟩, ⟨by repeat (first | (with_reducible first | exact HB.out | apply below_alloc | apply pw_below_drewN | apply below_drew1 | refine below_set ?_ GE301.out) | exact HB.out)⟩⟩
             case round =>
              clear H'
              try clear c1
              try clear c2
              try clear p2
              try clear q2
              try clear hx2
              try clear hf2
              try clear c3
              try clear p3
              try clear q3
              try clear hx3
              try clear c4
              try clear c5
              try clear c6
              try clear p6
              try clear c9
              try clear c10
              try clear c13
              try clear c17
              try clear c18
              try clear c22
              try clear c22b0
              try clear c23
              try clear c23b0
              try clear c24
              try clear c24b0
              try clear p26
              try clear q26
              try clear hx26
              try clear hf26
              try clear p31
              try clear q31
              try clear hx31
              try clear c33
              try clear c33b0
              try clear c33b1
              try clear c37
              try clear c37b0
              try clear c39
              try clear c39b0
              try clear c39b1
              try clear c40
              try clear c40b0
              try clear c40b1
              try clear c41
              try clear c41b0
              try clear c41b1
              try clear hcz15_0
              try clear hcz15_1
              try clear hcz15_2
              try clear hcz15_3
              try clear hcz19_0
              try clear hcz19_1
              try clear hcz19_2
              try clear hcz19_3
              try clear hcz27_0
              try clear hcz27_1
              try clear hcz27_2
              try clear hcz27_3
              try clear hcz34_0
              try clear hcz34_1
              try clear hcz34_2
              try clear hcz34_3
              try clear hcz8_0
              try clear hcz8_1
              try clear hcz8_2
              try clear hcz8_3
              try clear hfz15_0
              try clear hfz15_1
              try clear hfz15_2
              try clear hfz15_3
              try clear hfz19_0
              try clear hfz19_1
              try clear hfz19_2
              try clear hfz19_3
              try clear hfz27_0
              try clear hfz27_1
              try clear hfz27_2
              try clear hfz27_3
              try clear hfz34_0
              try clear hfz34_1
              try clear hfz34_2
              try clear hfz34_3
              try clear hfz8_0
              try clear hfz8_1
              try clear hfz8_2
              try clear hfz8_3
              try clear hx26_0
              try clear hx315_0
              try clear p2
              try clear p26
              try clear p3
              try clear p31
              try clear p315
              try clear p6
              try clear q2
              try clear q26
              try clear q3
              try clear q31
              try clear q315
              obtain ⟨x12_3, x75_3, rfl, HA, HK3, HO_10, HO_12, BK301, HB⟩ := hrel
              have hl12_3 := (Kd.R_reads' HO_12.out).1
              rw [hl12_3] at HO_12
              (try simp only [hl12_3])
              (try simp only [hl12_3] at BK301)
              (try simp only [hl12_3] at HO_10)
              cases gk with
              | zero => exact absurd HA.out (by simp [impl_LevelsBack.l2])
              | succ k3 =>
               have H := HA.out
               clear HA
               simp only [impl_LevelsBack.l2] at H
               by_cases c46 : x75_3 < (t325.length : Int)
               ·rw [if_pos c46] at H
                have c46b0 : decide (x75_3 < (t325.length : Int)) = true := decide_eq_true c46
                (try (have c46b0h := c46b0; simp only [hl12_3] at c46b0h))
                clear c46
                by_cases c47 : 0 ≤ x75_3
                ·rw [if_pos c47] at H
                 have c47b0 : decide (0 ≤ x75_3) = true := decide_eq_true c47
                 (try (have c47b0h := c47b0; simp only [hl12_3] at c47b0h))
                 clear c47
                 by_cases c48 : x75_3 < (x12_3.length : Int)
                 ·rw [if_pos c48] at H
                  have c48b0 : decide (x75_3 < (x12_3.length : Int)) = true := decide_eq_true c48
                  (try (have c48b0h := c48b0; simp only [hl12_3] at c48b0h))
                  clear c48
                  replace H := Option.bind_eq_some_iff.mp H
                  obtain ⟨t330, A490, H⟩ := H
                  replace H : (impl_LevelsBack.l2 k3 l0 x10_2 x59_2 (x12_3.set (x75_3 : Int).toNat t330) x59_2 (t325.length : Int) (wrap64 (x75_3 + 1)) a1_0 a1_1 false false) = some (r1, r2) := H
                  have A49 := Aside0.mk A490
                  clear A490
                  obtain ⟨y331, hy331⟩ : ∃ y_ : List Int, y_ = (x12_3.set (x75_3 : Int).toNat t330) := ⟨_, rfl⟩
                  replace H : (impl_LevelsBack.l2 k3 l0 x10_2 x59_2 y331 x59_2 (t325.length : Int) (wrap64 (x75_3 + 1)) a1_0 a1_1 false false) = some (r1, r2) := by first | (rw [hy331]; with_reducible exact H) | (have H2_ := (Option.bind_some _ _).symm.trans H; rw [hy331]; with_reducible exact H2_) | (have H2_ := (Option.bind_some _ _).symm.trans H; with_reducible exact H2_) | with_reducible exact H | (rw [hy331]; exact H) | exact H
                  have Ny331 := Aside0.mk hy331
                  clear hy331
                  have H' := Aside0.mk H
                  clear H
                  have p329 : 0 ≤ (x75_3 : Int) := of_decide_eq_true (by first | (with_reducible assumption) | assumption)
                  have q329 : x75_3 < (x12_3.length : Int) := of_decide_eq_true (by first | (with_reducible assumption) | assumption)
                  obtain ⟨ad329, e329, hx329_0⟩ := Kd.at_int (Kd.R_reads' HO_12.out).2.2 x75_3 p329 q329
                  cases e329
                  replace p329 := eq_true p329
                  replace q329 := eq_true q329
                  have hcz51_0 : wr.cell? ⟨gb301, 0, none⟩ = some (.bool a1_0) := (blk_cell BK301.out 0).trans rfl
                  have hcz51_1 : wr.cell? ⟨gb301, 1, none⟩ = some (.int .i64 a1_1) := (blk_cell BK301.out 1).trans rfl
                  have hcz51_2 : wr.cell? ⟨gb301, 2, none⟩ = some (.bool false) := (blk_cell BK301.out 2).trans rfl
                  have hcz51_3 : wr.cell? ⟨gb301, 3, none⟩ = some (.bool false) := (blk_cell BK301.out 3).trans rfl
                  have hfz51_0 := blk_frozen BK301.out 0
                  have hfz51_1 := blk_frozen BK301.out 1
                  have hfz51_2 := blk_frozen BK301.out 2
                  have hfz51_3 := blk_frozen BK301.out 3
                  go_wp2_with (first | ((with_reducible refine gate_callee (f := 110) rfl ?_); refine goesL_ (some 86) rfl rfl Try.func110 (by kernel_rfl) rfl #[.int .i64 (rd x12_3 x75_3), .int .i64 a1_1, .int .i64 x75_3] rfl (by (try simp only [List.map_toArray, List.map_cons, List.map_nil]); first | done | rfl | (simp only [List.length_drop, List.length_take]; rfl)) ?_; (with_reducible refine (impl_SmallBack.calls k3 (rd x12_3 x75_3) a1_1 x75_3 t330 _ A49.out).mono ?_); rintro e w52 ⟨rfl, hb⟩; refine ⟨_, rfl, ?_⟩; have n0_ := Aside0.mk (Kd.R_below (by (with_reducible repeat (first | apply Kd.R_alloc | apply Kd.R_drewN | apply Kd.R_drew)); exact HO_10.out) hb); have n1_ := Aside0.mk (Kd.R_below (by (with_reducible repeat (first | apply Kd.R_alloc | apply Kd.R_drewN | apply Kd.R_drew)); exact HO_12.out) hb); have n2_ := Aside0.mk (blk_below (g := gb301) (o := .cells #[.bool a1_0, .int .i64 a1_1, .bool false, .bool false] 40 (0, 0)) (by (with_reducible repeat (first | refine blk_drewN ?_ _ | refine blk_drew ?_ | refine blk_alloc ?_ _)); exact BK301.out) hb); have n3_ := Aside0.mk (below_step (by repeat (first | (with_reducible first | exact HB.out | apply below_alloc | apply pw_below_drewN | apply below_drew1 | refine below_set ?_ GE301.out) | exact HB.out)) hb); clear HO_10; clear HO_12; clear BK301; clear HB; have HO_10 := n0_; have HO_12 := n1_; have BK301 := n2_; have HB := n3_; clear n0_ n1_ n2_ n3_; (try clear hb); (try clear hb2); (try clear hk); (try clear hi); have p50 : 0 ≤ (x75_3 : Int) := of_decide_eq_true (by first | (with_reducible assumption) | assumption); have q50 : (x75_3 : Int) < ((x12_3.length : Int) : Int) := of_decide_eq_true (by first | (with_reducible assumption) | assumption); obtain ⟨go50, co50, eo50, gb50, gl50, cl50, HG50⟩ := Kd.R_form HO_12.out (by omega); (first | cases eo50 | (injection eo50 with ea_ en_ ec_; (first | subst ea_ | (injection ea_ with ea_; subst ea_)); subst ec_; clear en_)); have GB50 := Aside0.mk gb50; have GG50 := Aside0.mk HG50; clear gb50 gl50 HG50; (first | simp only [add_plain] at hx329_0 | skip); obtain ⟨hx50_0, hf50_0⟩ := Kd.R_celln 0 HO_12.out (x75_3 : Int) p50 q50; replace p50 := eq_true p50; replace q50 := eq_true q50; obtain ⟨hy53_, hz53_⟩ := Kd.R_celln 0 HO_12.out (x75_3 : Int) (of_decide_eq_true (by first | (with_reducible assumption) | assumption)) (of_decide_eq_true (by first | (with_reducible assumption) | assumption)); have HP53 := Kd.R_putg HO_12.out (x75_3 : Int) t330) | ((with_reducible refine gate_store (t := 3) (p := 87) rfl ?_); refine store_event (t := 3) (p := 87) (v := ?vo_w54) (w1 := (w52.setCell ⟨go50, (x75_3 : Int).toNat, none⟩ (.int .i64 t330))) ?hg ?ho ?hn ?hr ?_; (case ho => rfl); (case hg => rfl); (case hn => rfl); (case hr => first | (go_simp; done) | (go_simp; rfl)); intro w54 hw; have hg : w52.grownBy w54 (some go50) := (by rw [hw]; exact HP53.2); have hp_ : Kd.R (Kd.int .i64) 3 w54 w.heap.size (fun k_ => some k_ ≠ (v322 : Value).ownBlock) (.slice (some ⟨go50, 0, none⟩) x12_3.length co45) y331 := (by rw [hw, Ny331.out]; exact HP53.1); clear HP53; have n0_ := Aside0.mk (Kd.R_after (v := (.slice (some ⟨go50, 0, none⟩) x12_3.length co45)) (v1 := (.slice (some ⟨go50, 0, none⟩) x12_3.length co45)) (ok := (fun _ => True)) (by (with_reducible repeat (first | apply Kd.R_alloc | apply Kd.R_drewN | apply Kd.R_drew)); exact Kd.R_mono HO_10.out (fun _ hk => ⟨trivial, hk⟩)) hg (.inl rfl)); have n1_ := Aside0.mk (hp_); have n2_ := Aside0.mk (blk_grown (g := gb301) (o := .cells #[.bool a1_0, .int .i64 a1_1, .bool false, .bool false] 40 (0, 0)) (by (with_reducible repeat (first | refine blk_drewN ?_ _ | refine blk_drew ?_ | refine blk_alloc ?_ _)); exact BK301.out) hg (Kd.R_ne HO_12.out BK301.out (by decide))); have n3_ := Aside0.mk ((by rw [hw]; exact below_set (HB.out) GB50.out : Below w.heap.size w w54)); clear HO_10; clear HO_12; clear BK301; clear HB; have HO_10 := n0_; have HO_12 := n1_; have BK301 := n2_; have HB := n3_; clear n0_ n1_ n2_ n3_; clear hg hw hp_))
                  (try simp only [← hl12_3])
                  go_roundg k3
                  case measure => have := HJ2.out; have := HK2.out; have := HK3.out; omega
                  case rel => exact ⟨(y331), (wrap64 (x75_3 + 1)), (by first | rfl | (simp; done) | (simp [*]; done)), H', ⟨by have := HJ2.out; have := HK2.out; have := HK3.out; omega⟩, ⟨by (try simp only [hl12_3]); (with_reducible repeat (first | apply Kd.R_alloc | apply Kd.R_drewN | apply Kd.R_drew)); exact Kd.R_mono HO_10.out (fun _ hk => hk.2)⟩, ⟨by (try simp only [hl12_3]); (with_reducible repeat (first | apply Kd.R_alloc | apply Kd.R_drewN | apply Kd.R_drew)); exact HO_12.out⟩, ⟨by (try simp only [hl12_3]); (with_reducible repeat (first | refine blk_drewN ?_ _ | refine blk_drew ?_ | refine blk_alloc ?_ _)); exact BK301.out⟩, ⟨by repeat (first | (with_reducible first | exact HB.out | apply below_alloc | apply pw_below_drewN | apply below_drew1 | refine below_set ?_ GE301.out) | exact HB.out)⟩⟩
                 ·rw [if_neg c48] at H
                  exact absurd H (by simp)
                ·rw [if_neg c47] at H
                 exact absurd H (by simp)
               ·rw [if_neg c46] at H
                have c46b0 : decide (x75_3 < (t325.length : Int)) = false := decide_eq_false c46
                (try (have c46b0h := c46b0; simp only [hl12_3] at c46b0h))
                clear c46
                replace H := Option.bind_eq_some_iff.mp H
                obtain ⟨t332, A550, H⟩ := H
                replace H : ((impl_quarter.f k3 x59_2).bind fun t335 => (impl_LevelsBack.l3 k3 l0 x10_2 t332 x59_2 t335 (t335.length : Int) 0 a1_0 a1_1 false false)) = some (r1, r2) := H
                have A55 := Aside0.mk A550
                clear A550
                replace H := Option.bind_eq_some_iff.mp H
                obtain ⟨t335, A560, H⟩ := H
                replace H : (impl_LevelsBack.l3 k3 l0 x10_2 t332 x59_2 t335 (t335.length : Int) 0 a1_0 a1_1 false false) = some (r1, r2) := H
                have A56 := Aside0.mk A560
                clear A560
                have H' := Aside0.mk H
                clear H
                go_wp2_with (first | ((with_reducible refine gate_callee (f := 28) rfl ?_); refine goesL_ (some 90) rfl rfl Try.func28 (by kernel_rfl) rfl #[.slice Ao45 x12_3.length co45] rfl (by (try simp only [List.map_toArray, List.map_cons, List.map_nil]); first | done | rfl | (simp only [List.length_drop, List.length_take]; rfl)) ?_; (with_reducible refine (impl_FourBack.calls k3 _ _ x12_3 t332 _ ?side1 ?side2 A55.out).mono ?_); (case side1 => repeat (first | exact (Kd.R_reads' HO_12.out).2.2 | (with_reducible refine Kd.C_alloc ?_ _) | (with_reducible refine Kd.C_drewN ?_ _) | (with_reducible refine Kd.C_drew ?_))); (case side2 => exact (Kd.R_reads' HO_12.out).2.1); rintro e w57 ⟨v333, rfl, ho0, hb⟩; refine ⟨_, rfl, ?_⟩; have n0_ := Aside0.mk (Kd.R_elder' (by (with_reducible repeat (first | apply Kd.R_alloc | apply Kd.R_drewN | apply Kd.R_drew)); exact HO_10.out) (Kd.R_base ho0) hb); have n1_ := Aside0.mk (Kd.R_elder' (by (with_reducible repeat (first | apply Kd.R_alloc | apply Kd.R_drewN | apply Kd.R_drew)); exact HO_12.out) (Kd.R_base ho0) hb); have n2_ := Aside0.mk (Kd.R_lower (Kd.R_new' (Kd.R_new' ho0 (Kd.R_lt (by (with_reducible repeat (first | apply Kd.R_alloc | apply Kd.R_drewN | apply Kd.R_drew)); exact HO_10.out))) (Kd.R_lt (by (with_reducible repeat (first | apply Kd.R_alloc | apply Kd.R_drewN | apply Kd.R_drew)); exact HO_12.out))) (below_size (by repeat (first | (with_reducible first | exact HB.out | apply below_alloc | apply pw_below_drewN | apply below_drew1 | refine below_set ?_ GE301.out) | exact HB.out)))); have n3_ := Aside0.mk (blk_below (g := gb301) (o := .cells #[.bool a1_0, .int .i64 a1_1, .bool false, .bool false] 40 (0, 0)) (by (with_reducible repeat (first | refine blk_drewN ?_ _ | refine blk_drew ?_ | refine blk_alloc ?_ _)); exact BK301.out) hb); have n4_ := Aside0.mk (below_step (by repeat (first | (with_reducible first | exact HB.out | apply below_alloc | apply pw_below_drewN | apply below_drew1 | refine below_set ?_ GE301.out) | exact HB.out)) hb); clear HO_10; clear HO_12; clear BK301; clear HB; have HO_10 := n0_; have HO_12 := n1_; have HO334 := n2_; have BK301 := n3_; have HB := n4_; clear n0_ n1_ n2_ n3_ n4_; (try clear hb); (try clear hb2); (try clear hk); (try clear hi); (try clear ho0)) | ((with_reducible refine gate_callee (f := 102) rfl ?_); refine goesL_ (some 92) rfl rfl Try.func102 (by kernel_rfl) rfl #[.int .i64 x59_2] rfl (by (try simp only [List.map_toArray, List.map_cons, List.map_nil]); first | done | rfl | (simp only [List.length_drop, List.length_take]; rfl)) ?_; (with_reducible refine (impl_quarter.calls k3 x59_2 t335 _ A56.out).mono ?_); rintro e w58 ⟨v336, rfl, ho0, hb⟩; refine ⟨_, rfl, ?_⟩; have n0_ := Aside0.mk (Kd.R_elder' (by (with_reducible repeat (first | apply Kd.R_alloc | apply Kd.R_drewN | apply Kd.R_drew)); exact HO_10.out) (Kd.R_base ho0) hb); have n1_ := Aside0.mk (Kd.R_elder' (by (with_reducible repeat (first | apply Kd.R_alloc | apply Kd.R_drewN | apply Kd.R_drew)); exact HO_12.out) (Kd.R_base ho0) hb); have n2_ := Aside0.mk (Kd.R_elder' (by (with_reducible repeat (first | apply Kd.R_alloc | apply Kd.R_drewN | apply Kd.R_drew)); exact HO334.out) (Kd.R_base ho0) hb); have n3_ := Aside0.mk (Kd.R_lower (Kd.R_new' (Kd.R_new' (Kd.R_new' ho0 (Kd.R_lt (by (with_reducible repeat (first | apply Kd.R_alloc | apply Kd.R_drewN | apply Kd.R_drew)); exact HO_10.out))) (Kd.R_lt (by (with_reducible repeat (first | apply Kd.R_alloc | apply Kd.R_drewN | apply Kd.R_drew)); exact HO_12.out))) (Kd.R_lt (by (with_reducible repeat (first | apply Kd.R_alloc | apply Kd.R_drewN | apply Kd.R_drew)); exact HO334.out))) (below_size (by repeat (first | (with_reducible first | exact HB.out | apply below_alloc | apply pw_below_drewN | apply below_drew1 | refine below_set ?_ GE301.out) | exact HB.out)))); have n4_ := Aside0.mk (blk_below (g := gb301) (o := .cells #[.bool a1_0, .int .i64 a1_1, .bool false, .bool false] 40 (0, 0)) (by (with_reducible repeat (first | refine blk_drewN ?_ _ | refine blk_drew ?_ | refine blk_alloc ?_ _)); exact BK301.out) hb); have n5_ := Aside0.mk (below_step (by repeat (first | (with_reducible first | exact HB.out | apply below_alloc | apply pw_below_drewN | apply below_drew1 | refine below_set ?_ GE301.out) | exact HB.out)) hb); clear HO_10; clear HO_12; clear HO334; clear BK301; clear HB; have HO_10 := n0_; have HO_12 := n1_; have HO334 := n2_; have HO337 := n3_; have BK301 := n4_; have HB := n5_; clear n0_ n1_ n2_ n3_ n4_ n5_; (try clear hb); (try clear hb2); (try clear hk); (try clear hi); (try clear ho0); obtain ⟨Ao59, co59, eo59⟩ := Kd.R_slice HO337.out; subst eo59))
                go_loopg [94] k3 (fun kq v94 w' => ∃ (x10_4 : List Int) (x94_4 : Int), v94 = .int .i64 x94_4 ∧ Aside0 (impl_LevelsBack.l3 kq l0 x10_4 t332 x59_2 t335 (t335.length : Int) x94_4 a1_0 a1_1 false false = some (r1, r2)) ∧ Aside0 (kq ≤ k3) ∧ Aside0 (Kd.R (Kd.int .i64) 3 w' w.heap.size (fun k_ => some k_ ≠ (v333 : Value).ownBlock ∧ some k_ ≠ ((.slice Ao59 t335.length co59) : Value).ownBlock) v322 x10_4) ∧ Aside0 (Kd.R (Kd.int .i64) 3 w' w.heap.size (fun k_ => some k_ ≠ (v322 : Value).ownBlock ∧ some k_ ≠ ((.slice Ao59 t335.length co59) : Value).ownBlock) v333 t332) ∧ Aside0 (Kd.R (Kd.int .i64) 3 w' w.heap.size (fun k_ => some k_ ≠ (v322 : Value).ownBlock ∧ some k_ ≠ (v333 : Value).ownBlock) (.slice Ao59 t335.length co59) t335) ∧ Aside0 (w'.heap[gb301]? = some (.cells #[.bool a1_0, .int .i64 a1_1, .bool false, .bool false] 40 (0, 0))) ∧ Aside0 (Below w.heap.size w w'))
                case atStart => exact ⟨(x10_2), (0), (by first | rfl | (simp; done) | (simp [*]; done)), H', ⟨Nat.le_refl _⟩, ⟨by (try simp only [hl12_3]); (with_reducible repeat (first | apply Kd.R_alloc | apply Kd.R_drewN | apply Kd.R_drew)); exact Kd.R_mono HO_10.out (fun _ hk => ⟨hk.1.2, hk.2⟩)⟩, ⟨by (try simp only [hl12_3]); (with_reducible repeat (first | apply Kd.R_alloc | apply Kd.R_drewN | apply Kd.R_drew)); exact Kd.R_mono HO334.out (fun _ hk => ⟨hk.1.1.2, hk.2⟩)⟩, ⟨by (try simp only [hl12_3]); (with_reducible repeat (first | apply Kd.R_alloc | apply Kd.R_drewN | apply Kd.R_drew)); exact Kd.R_mono HO337.out (fun _ hk => ⟨hk.1.1.2, hk.2⟩)⟩, ⟨by (try simp only [hl12_3]); (with_reducible repeat (first | refine blk_drewN ?_ _ | refine blk_drew ?_ | refine blk_alloc ?_ _)); exact BK301.out⟩, ⟨by repeat (first | (with_reducible first | exact HB.out | apply below_alloc | apply pw_below_drewN | apply below_drew1 | refine below_set ?_ GE301.out) | exact HB.out)⟩⟩
                case round =>
                 clear H'
                 try clear c1
                 try clear c2
                 try clear p2
                 try clear q2
                 try clear hx2
                 try clear hf2
                 try clear c3
                 try clear p3
                 try clear q3
                 try clear hx3
                 try clear c4
                 try clear c5
                 try clear p5
                 try clear q5
                 try clear hx5
                 try clear hf5
                 try clear c6
                 try clear p6
                 try clear c9
                 try clear c10
                 try clear c11
                 try clear c13
                 try clear c17
                 try clear c18
                 try clear c22
                 try clear c22b0
                 try clear c23
                 try clear c23b0
                 try clear c24
                 try clear c24b0
                 try clear p26
                 try clear q26
                 try clear hx26
                 try clear hf26
                 try clear c28
                 try clear p31
                 try clear q31
                 try clear hx31
                 try clear p32
                 try clear q32
                 try clear hx32
                 try clear c33
                 try clear c33b0
                 try clear c33b1
                 try clear c37
                 try clear c37b0
                 try clear c39
                 try clear c39b0
                 try clear c39b1
                 try clear c40
                 try clear c40b0
                 try clear c40b1
                 try clear c41
                 try clear c41b0
                 try clear c41b1
                 try clear c46
                 try clear c46b0
                 try clear c47
                 try clear c47b0
                 try clear c48
                 try clear c48b0
                 try clear p50
                 try clear q50
                 try clear hx50
                 try clear hf50
                 try clear c52
                 try clear hcz15_0
                 try clear hcz15_1
                 try clear hcz15_2
                 try clear hcz15_3
                 try clear hcz19_0
                 try clear hcz19_1
                 try clear hcz19_2
                 try clear hcz19_3
                 try clear hcz27_0
                 try clear hcz27_1
                 try clear hcz27_2
                 try clear hcz27_3
                 try clear hcz34_0
                 try clear hcz34_1
                 try clear hcz34_2
                 try clear hcz34_3
                 try clear hcz51_0
                 try clear hcz51_1
                 try clear hcz51_2
                 try clear hcz51_3
                 try clear hcz8_0
                 try clear hcz8_1
                 try clear hcz8_2
                 try clear hcz8_3
                 try clear hfz15_0
                 try clear hfz15_1
                 try clear hfz15_2
                 try clear hfz15_3
                 try clear hfz19_0
                 try clear hfz19_1
                 try clear hfz19_2
                 try clear hfz19_3
                 try clear hfz27_0
                 try clear hfz27_1
                 try clear hfz27_2
                 try clear hfz27_3
                 try clear hfz34_0
                 try clear hfz34_1
                 try clear hfz34_2
                 try clear hfz34_3
                 try clear hfz51_0
                 try clear hfz51_1
                 try clear hfz51_2
                 try clear hfz51_3
                 try clear hfz8_0
                 try clear hfz8_1
                 try clear hfz8_2
                 try clear hfz8_3
                 try clear hx26_0
                 try clear hx315_0
                 try clear hx329_0
                 try clear hx50_0
                 try clear p2
                 try clear p26
                 try clear p3
                 try clear p31
                 try clear p315
                 try clear p329
                 try clear p50
                 try clear p6
                 try clear q2
                 try clear q26
                 try clear q3
                 try clear q31
                 try clear q315
                 try clear q329
                 try clear q50
                 obtain ⟨x10_4, x94_4, rfl, HA, HK4, HO_10, HO_16, HO_92, BK301, HB⟩ := hrel
                 cases gk with
                 | zero => exact absurd HA.out (by simp [impl_LevelsBack.l3])
                 | succ k4 =>
                  have H := HA.out
                  clear HA
                  simp only [impl_LevelsBack.l3] at H
                  by_cases c60 : x94_4 < (t335.length : Int)
                  ·rw [if_pos c60] at H
                   have c60b0 : decide (x94_4 < (t335.length : Int)) = true := decide_eq_true c60
                   (try (have c60b0h := c60b0; simp only [hl12_3] at c60b0h))
                   clear c60
                   by_cases c61 : 0 ≤ x94_4
                   ·rw [if_pos c61] at H
                    have c61b0 : decide (0 ≤ x94_4) = true := decide_eq_true c61
                    (try (have c61b0h := c61b0; simp only [hl12_3] at c61b0h))
                    clear c61
                    by_cases c62 : x94_4 < (t335.length : Int)
                    ·rw [if_pos c62] at H
                     have c62b0 : decide (x94_4 < (t335.length : Int)) = true := decide_eq_true c62
                     (try (have c62b0h := c62b0; simp only [hl12_3] at c62b0h))
                     clear c62
                     by_cases c63 : x94_4 < (t332.length : Int)
                     ·rw [if_pos c63] at H
                      have c63b0 : decide (x94_4 < (t332.length : Int)) = true := decide_eq_true c63
                      (try (have c63b0h := c63b0; simp only [hl12_3] at c63b0h))
                      clear c63
                      by_cases c64 : 0 ≤ (rd t335 x94_4)
                      ·rw [if_pos c64] at H
                       have c64b0 : decide (0 ≤ (rd t335 x94_4)) = true := decide_eq_true c64
                       (try (have c64b0h := c64b0; simp only [hl12_3] at c64b0h))
                       clear c64
                       by_cases c65 : (rd t335 x94_4) < (x10_4.length : Int)
                       ·rw [if_pos c65] at H
                        have c65b0 : decide ((rd t335 x94_4) < (x10_4.length : Int)) = true := decide_eq_true c65
                        (try (have c65b0h := c65b0; simp only [hl12_3] at c65b0h))
                        clear c65
                        obtain ⟨y340, hy340⟩ : ∃ y_ : List Int, y_ = (x10_4.set ((rd t335 x94_4) : Int).toNat (rd t332 x94_4)) := ⟨_, rfl⟩
                        replace H : (impl_LevelsBack.l3 k4 l0 y340 t332 x59_2 t335 (t335.length : Int) (wrap64 (x94_4 + 1)) a1_0 a1_1 false false) = some (r1, r2) := by first | (rw [hy340]; with_reducible exact H) | (have H2_ := (Option.bind_some _ _).symm.trans H; rw [hy340]; with_reducible exact H2_) | (have H2_ := (Option.bind_some _ _).symm.trans H; with_reducible exact H2_) | with_reducible exact H | (rw [hy340]; exact H) | exact H
                        have Ny340 := Aside0.mk hy340
                        clear hy340
                        have H' := Aside0.mk H
                        clear H
                        have p338 : 0 ≤ (x94_4 : Int) := of_decide_eq_true (by first | (with_reducible assumption) | assumption)
                        have q338 : x94_4 < (t335.length : Int) := of_decide_eq_true (by first | (with_reducible assumption) | assumption)
                        obtain ⟨ad338, e338, hx338_0⟩ := Kd.at_int (Kd.R_reads' HO_92.out).2.2 x94_4 p338 q338
                        cases e338
                        replace p338 := eq_true p338
                        replace q338 := eq_true q338
                        obtain ⟨Ao67, co67, eo67⟩ := Kd.R_slice HO_16.out
                        subst eo67
                        have p339 : 0 ≤ (x94_4 : Int) := of_decide_eq_true (by first | (with_reducible assumption) | assumption)
                        have q339 : x94_4 < (t332.length : Int) := of_decide_eq_true (by first | (with_reducible assumption) | assumption)
                        obtain ⟨ad339, e339, hx339_0⟩ := Kd.at_int (Kd.R_reads' HO_16.out).2.2 x94_4 p339 q339
                        cases e339
                        replace p339 := eq_true p339
                        replace q339 := eq_true q339
                        have p66 : 0 ≤ ((rd t335 x94_4) : Int) := of_decide_eq_true (by first | (with_reducible assumption) | assumption)
                        have q66 : ((rd t335 x94_4) : Int) < ((x10_4.length : Int) : Int) := of_decide_eq_true (by first | (with_reducible assumption) | assumption)
                        obtain ⟨go66, co66, eo66, gb66, gl66, cl66, HG66⟩ := Kd.R_form HO_10.out (by omega)
                        (first | cases eo66 | (injection eo66 with ea_ en_ ec_; (first | subst ea_ | (injection ea_ with ea_; subst ea_)); subst ec_; clear en_))
                        have GB66 := Aside0.mk gb66
                        have GG66 := Aside0.mk HG66
                        clear gb66 gl66 HG66
                        obtain ⟨hx66_0, hf66_0⟩ := Kd.R_celln 0 HO_10.out ((rd t335 x94_4) : Int) p66 q66
                        replace p66 := eq_true p66
                        replace q66 := eq_true q66
                        have HP68 := Kd.R_putg HO_10.out ((rd t335 x94_4) : Int) (rd t332 x94_4)
                        go_wp2_with (first | ((with_reducible refine gate_store (t := 3) (p := 105) rfl ?_); refine store_event (t := 3) (p := 105) (v := ?vo_w69) (w1 := (wr.setCell ⟨go66, ((rd t335 x94_4) : Int).toNat, none⟩ (.int .i64 (rd t332 x94_4)))) ?hg ?ho ?hn ?hr ?_; (case ho => rfl); (case hg => rfl); (case hn => rfl); (case hr => first | (go_simp; done) | (go_simp; rfl)); intro w69 hw; have hg : wr.grownBy w69 (some go66) := (by rw [hw]; exact HP68.2); have hp_ : Kd.R (Kd.int .i64) 3 w69 w.heap.size (fun k_ => some k_ ≠ (.slice (some ad339) t332.length co67 : Value).ownBlock ∧ some k_ ≠ (.slice (some ad338) t335.length co59 : Value).ownBlock) (.slice (some ⟨go66, 0, none⟩) x10_4.length co66) y340 := (by rw [hw, Ny340.out]; exact HP68.1); clear HP68; have n0_ := Aside0.mk (hp_); have n1_ := Aside0.mk (Kd.R_after (v := (.slice (some ⟨go66, 0, none⟩) x10_4.length co66)) (v1 := (.slice (some ⟨go66, 0, none⟩) x10_4.length co66)) (ok := (fun k_ => some k_ ≠ (.slice (some ad338) t335.length co59 : Value).ownBlock)) (by (with_reducible repeat (first | apply Kd.R_alloc | apply Kd.R_drewN | apply Kd.R_drew)); exact Kd.R_mono HO_16.out (fun _ hk => ⟨hk.2, hk.1⟩)) hg (.inl rfl)); have n2_ := Aside0.mk (Kd.R_after (v := (.slice (some ⟨go66, 0, none⟩) x10_4.length co66)) (v1 := (.slice (some ⟨go66, 0, none⟩) x10_4.length co66)) (ok := (fun k_ => some k_ ≠ (.slice (some ad339) t332.length co67 : Value).ownBlock)) (by (with_reducible repeat (first | apply Kd.R_alloc | apply Kd.R_drewN | apply Kd.R_drew)); exact Kd.R_mono HO_92.out (fun _ hk => ⟨hk.2, hk.1⟩)) hg (.inl rfl)); have n3_ := Aside0.mk (blk_grown (g := gb301) (o := .cells #[.bool a1_0, .int .i64 a1_1, .bool false, .bool false] 40 (0, 0)) (by (with_reducible repeat (first | refine blk_drewN ?_ _ | refine blk_drew ?_ | refine blk_alloc ?_ _)); exact BK301.out) hg (Kd.R_ne HO_10.out BK301.out (by decide))); have n4_ := Aside0.mk ((by rw [hw]; exact below_set (HB.out) GB66.out : Below w.heap.size w w69)); clear HO_10; clear HO_16; clear HO_92; clear BK301; clear HB; have HO_10 := n0_; have HO_16 := n1_; have HO_92 := n2_; have BK301 := n3_; have HB := n4_; clear n0_ n1_ n2_ n3_ n4_; clear hg hw hp_))
                        go_roundg k4
                        case measure => have := HJ2.out; have := HK2.out; have := HK3.out; have := HK4.out; omega
                        case rel => exact ⟨(y340), (wrap64 (x94_4 + 1)), (by first | rfl | (simp; done) | (simp [*]; done)), H', ⟨by have := HJ2.out; have := HK2.out; have := HK3.out; have := HK4.out; omega⟩, ⟨by (try simp only [hl12_3]); (with_reducible repeat (first | apply Kd.R_alloc | apply Kd.R_drewN | apply Kd.R_drew)); exact HO_10.out⟩, ⟨by (try simp only [hl12_3]); (with_reducible repeat (first | apply Kd.R_alloc | apply Kd.R_drewN | apply Kd.R_drew)); exact Kd.R_mono HO_16.out (fun _ hk => ⟨hk.2, hk.1⟩)⟩, ⟨by (try simp only [hl12_3]); (with_reducible repeat (first | apply Kd.R_alloc | apply Kd.R_drewN | apply Kd.R_drew)); exact Kd.R_mono HO_92.out (fun _ hk => ⟨hk.2, hk.1⟩)⟩, ⟨by (try simp only [hl12_3]); (with_reducible repeat (first | refine blk_drewN ?_ _ | refine blk_drew ?_ | refine blk_alloc ?_ _)); exact BK301.out⟩, ⟨by repeat (first | (with_reducible first | exact HB.out | apply below_alloc | apply pw_below_drewN | apply below_drew1 | refine below_set ?_ GE301.out) | exact HB.out)⟩⟩
                       ·rw [if_neg c65] at H
                        exact absurd H (by simp)
                      ·rw [if_neg c64] at H
                       exact absurd H (by simp)
                     ·rw [if_neg c63] at H
                      exact absurd H (by simp)
                    ·rw [if_neg c62] at H
                     exact absurd H (by simp)
                   ·rw [if_neg c61] at H
                    exact absurd H (by simp)
                  ·rw [if_neg c60] at H
                   have c60b0 : decide (x94_4 < (t335.length : Int)) = false := decide_eq_false c60
                   (try (have c60b0h := c60b0; simp only [hl12_3] at c60b0h))
                   clear c60
                   have H' := Aside0.mk H
                   clear H
                   go_wp2
                   (try simp only [← hl12_3])
                   go_roundg k4
                   case measure => have := HJ2.out; have := HK2.out; have := HK3.out; have := HK4.out; omega
                   case rel => exact ⟨(x10_4), (wrap64 (x59_2 + 1)), (by first | rfl | (simp; done) | (simp [*]; done)), H', ⟨by have := HJ2.out; have := HK2.out; have := HK3.out; have := HK4.out; omega⟩, ⟨by (try simp only [hl12_3]); (with_reducible repeat (first | apply Kd.R_alloc | apply Kd.R_drewN | apply Kd.R_drew)); exact Kd.R_mono HO_10.out (fun _ hk => trivial)⟩, ⟨by (try simp only [hl12_3]); (with_reducible repeat (first | refine blk_drewN ?_ _ | refine blk_drew ?_ | refine blk_alloc ?_ _)); exact BK301.out⟩, ⟨by repeat (first | (with_reducible first | exact HB.out | apply below_alloc | apply pw_below_drewN | apply below_drew1 | refine below_set ?_ GE301.out) | exact HB.out)⟩⟩
            ·rw [if_neg c41] at H
             exact absurd H (by simp)
           ·rw [if_neg c40] at H
            exact absurd H (by simp)
          ·rw [if_neg c39] at H
           exact absurd H (by simp)
         ·rw [if_neg c37] at H
          have c37b0 : decide (x59_2 < 4) = false := decide_eq_false c37
          clear c37
          simp only [Option.some.injEq, Prod.mk.injEq] at H
          obtain ⟨rfl, rfl⟩ := H
          go_wp2
          go_ret2
          exact ⟨_, by first | rfl | (simp [errW_none, errW_some] <;> rfl) | (simp [*, errW_none, errW_some] <;> rfl), by (with_reducible repeat (first | apply Kd.R_alloc | apply Kd.R_drewN | apply Kd.R_drew)); exact HO_10.out, by repeat (first | (with_reducible first | exact HB.out | apply below_alloc | apply pw_below_drewN | apply below_drew1 | refine below_set ?_ GE301.out) | exact HB.out)⟩
      ·rw [if_neg c33] at H
       exact absurd H (by simp)

end Go.Proofs.Ytlmlkoalicjlhaa.QFnExactLeft
