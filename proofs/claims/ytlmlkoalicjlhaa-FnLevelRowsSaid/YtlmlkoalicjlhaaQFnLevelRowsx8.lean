/- What the law reaches, as plain functions, each with the proof that its call comes to its answer: written by a program for this claim. -/
import Derived.Test.YtlmlkoalicjlhaaQFnLevelRowsx0
import Derived.Test.YtlmlkoalicjlhaaQFnLevelRowsx4
import Derived.Test.YtlmlkoalicjlhaaQFnLevelRowsx5
import Derived.Test.YtlmlkoalicjlhaaQFnLevelRowsx6
import Derived.Test.YtlmlkoalicjlhaaQFnLevelRowsx7
namespace Go.Proofs.Ytlmlkoalicjlhaa.QFnLevelRows
open Go.RowKit Go.Proofs.YtlmlkoalicjlhaaW.PrintWords Go.Proofs.YtlmlkoalicjlhaaW.PrintLast Go.Proofs.YtlmlkoalicjlhaaW.PrintMore Go.Proofs.YtlmlkoalicjlhaaV
attribute [local go_sem] max2_int min2_int max_two min_two max_three min_three max_four min_four   -- for this text's walks alone
set_option linter.unusedVariables false
set_option linter.unusedSimpArgs false

mutual
def impl_LevelsBack.j0 : Nat → List Int → Bool → Bool → Int → Bool → Bool → Option (List Int × Bool)
 | 0, _, _, _, _, _, _ => none
 | k + 1, x0, x26, x219000, x219001, x219002, x219003 => if x26 = true then (some ((([] : List Int)), false)) else (if x219003 = true then ((impl_Unscanned.f k 8 x0).bind fun bt224 => (some (bt224.1, bt224.2))) else (if x219002 = true then ((impl_Unscanned.f k 8 x0).bind fun bt228 => (impl_LevelsBack.l0 k bt228.1 (bt228.1.length : Int) 0 x219000 x219001 x219002 x219003)) else (if 64 ≤ 35184372088832 then (impl_LevelsBack.l1 k x0 (List.replicate 64 0) 0 x219000 x219001 x219002 x219003) else (none))))
def impl_LevelsBack.l0 : Nat → List Int → Int → Int → Bool → Int → Bool → Bool → Option (List Int × Bool)
 | 0, _, _, _, _, _, _, _ => none
 | k + 1, x6, x42, x43, x219000, x219001, x219002, x219003 => if x43 < x42 then (if 0 ≤ x43 then (if x43 < (x6.length : Int) then ((impl_LargeBack.f (rd x6 x43) x219001).bind fun t233 => (impl_LevelsBack.l0 k (x6.set (x43 : Int).toNat t233) x42 (wrap64 (x43 + 1)) x219000 x219001 x219002 x219003)) else (none)) else (none)) else ((impl_EightBack.f k x6).bind fun t235 => (some (t235, true)))
def impl_LevelsBack.l1 : Nat → List Int → List Int → Int → Bool → Int → Bool → Bool → Option (List Int × Bool)
 | 0, _, _, _, _, _, _, _ => none
 | k + 1, x0, x10, x59, x219000, x219001, x219002, x219003 => if x59 < 4 then (if 0 ≤ (wrap64 (16 * x59)) then (if (wrap64 (16 * x59)) ≤ (wrap64 ((wrap64 (16 * x59)) + 16)) then (if (wrap64 ((wrap64 (16 * x59)) + 16)) ≤ (x0.length : Int) then ((impl_Unscanned.f k 4 ((x0.take ((wrap64 ((wrap64 (16 * x59)) + 16)) : Int).toNat).drop ((wrap64 (16 * x59)) : Int).toNat)).bind fun bt242 => (impl_LevelsBack.l2 k x0 x10 x59 bt242.1 x59 (bt242.1.length : Int) 0 x219000 x219001 x219002 x219003)) else (none)) else (none)) else (none)) else (some (x10, true))
def impl_LevelsBack.l2 : Nat → List Int → List Int → Int → List Int → Int → Int → Int → Bool → Int → Bool → Bool → Option (List Int × Bool)
 | 0, _, _, _, _, _, _, _, _, _, _, _ => none
 | k + 1, x0, x10, x11, x12, x59, x74, x75, x219000, x219001, x219002, x219003 => if x75 < x74 then (if 0 ≤ x75 then (if x75 < (x12.length : Int) then ((impl_SmallBack.f k (rd x12 x75) x219001 x75).bind fun t247 => (impl_LevelsBack.l2 k x0 x10 x11 (x12.set (x75 : Int).toNat t247) x59 x74 (wrap64 (x75 + 1)) x219000 x219001 x219002 x219003)) else (none)) else (none)) else ((impl_FourBack.f k x12).bind fun t249 => ((impl_quarter.f k x11).bind fun t252 => (impl_LevelsBack.l3 k x0 x10 t249 x59 t252 (t252.length : Int) 0 x219000 x219001 x219002 x219003)))
def impl_LevelsBack.l3 : Nat → List Int → List Int → List Int → Int → List Int → Int → Int → Bool → Int → Bool → Bool → Option (List Int × Bool)
 | 0, _, _, _, _, _, _, _, _, _, _, _ => none
 | k + 1, x0, x10, x16, x59, x92, x93, x94, x219000, x219001, x219002, x219003 => if x94 < x93 then (if 0 ≤ x94 then (if x94 < (x92.length : Int) then (if x94 < (x16.length : Int) then (if 0 ≤ (rd x92 x94) then (if (rd x92 x94) < (x10.length : Int) then (impl_LevelsBack.l3 k x0 (x10.set ((rd x92 x94) : Int).toNat (rd x16 x94)) x16 x59 x92 x93 (wrap64 (x94 + 1)) x219000 x219001 x219002 x219003) else (none)) else (none)) else (none)) else (none)) else (none)) else (impl_LevelsBack.l1 k x0 x10 (wrap64 (x59 + 1)) x219000 x219001 x219002 x219003)
end
def impl_LevelsBack.f (k : Nat) (l0 : List Int) (a1_0 : Bool) (a1_1 : Int) (a1_2 : Bool) (a1_3 : Bool) : Option (List Int × Bool) := (impl_areLevels.f k l0).bind fun t219 => (if t219 = true then ((impl_CondOk.f a1_0 a1_1 a1_2 a1_3).bind fun t220 => (impl_LevelsBack.j0 k l0 (!t220) a1_0 a1_1 a1_2 a1_3)) else (impl_LevelsBack.j0 k l0 true a1_0 a1_1 a1_2 a1_3))
theorem impl_LevelsBack.mono_l : ∀ k, (∀ y0 y1 y2 y3 y4 y5, LeO (impl_LevelsBack.j0 k y0 y1 y2 y3 y4 y5) (impl_LevelsBack.j0 (k + 1) y0 y1 y2 y3 y4 y5)) ∧ (∀ y0 y1 y2 y3 y4 y5 y6, LeO (impl_LevelsBack.l0 k y0 y1 y2 y3 y4 y5 y6) (impl_LevelsBack.l0 (k + 1) y0 y1 y2 y3 y4 y5 y6)) ∧ (∀ y0 y1 y2 y3 y4 y5 y6, LeO (impl_LevelsBack.l1 k y0 y1 y2 y3 y4 y5 y6) (impl_LevelsBack.l1 (k + 1) y0 y1 y2 y3 y4 y5 y6)) ∧ (∀ y0 y1 y2 y3 y4 y5 y6 y7 y8 y9 y10, LeO (impl_LevelsBack.l2 k y0 y1 y2 y3 y4 y5 y6 y7 y8 y9 y10) (impl_LevelsBack.l2 (k + 1) y0 y1 y2 y3 y4 y5 y6 y7 y8 y9 y10)) ∧ (∀ y0 y1 y2 y3 y4 y5 y6 y7 y8 y9 y10, LeO (impl_LevelsBack.l3 k y0 y1 y2 y3 y4 y5 y6 y7 y8 y9 y10) (impl_LevelsBack.l3 (k + 1) y0 y1 y2 y3 y4 y5 y6 y7 y8 y9 y10))
 | 0 => ⟨fun _ _ _ _ _ _ r h => by simp [impl_LevelsBack.j0] at h, fun _ _ _ _ _ _ _ r h => by simp [impl_LevelsBack.l0] at h, fun _ _ _ _ _ _ _ r h => by simp [impl_LevelsBack.l1] at h, fun _ _ _ _ _ _ _ _ _ _ _ r h => by simp [impl_LevelsBack.l2] at h, fun _ _ _ _ _ _ _ _ _ _ _ r h => by simp [impl_LevelsBack.l3] at h⟩
 | k + 1 => by
  obtain ⟨ih0, ih1, ih2, ih3, ih4⟩ := impl_LevelsBack.mono_l k
  refine ⟨?_, ?_, ?_, ?_, ?_⟩
  ·intro y0 y1 y2 y3 y4 y5
   unfold impl_LevelsBack.j0
   repeat' first
   | (with_reducible exact ih0 _ _ _ _ _ _)
   | (with_reducible exact ih1 _ _ _ _ _ _ _)
   | (with_reducible exact ih2 _ _ _ _ _ _ _)
   | (with_reducible exact ih3 _ _ _ _ _ _ _ _ _ _ _)
   | (with_reducible exact ih4 _ _ _ _ _ _ _ _ _ _ _)
   | (with_reducible exact impl_EightBack.mono _ _)
   | (with_reducible exact impl_FourBack.mono _ _)
   | (with_reducible exact impl_SmallBack.mono _ _ _ _)
   | (with_reducible exact impl_Unscanned.mono _ _ _)
   | (with_reducible exact impl_areLevels.mono _ _)
   | (with_reducible exact impl_quarter.mono _ _)
   | (with_reducible exact LeO.refl _)
   | (with_reducible exact LeO.none _)
   | (with_reducible refine LeO.ite ?_ ?_)
   | (with_reducible refine LeO.bind ?_ (fun _ => ?_))
   | exact ih0 _ _ _ _ _ _
   | exact ih1 _ _ _ _ _ _ _
   | exact ih2 _ _ _ _ _ _ _
   | exact ih3 _ _ _ _ _ _ _ _ _ _ _
   | exact ih4 _ _ _ _ _ _ _ _ _ _ _
   | exact impl_EightBack.mono _ _
   | exact impl_FourBack.mono _ _
   | exact impl_SmallBack.mono _ _ _ _
   | exact impl_Unscanned.mono _ _ _
   | exact impl_areLevels.mono _ _
   | exact impl_quarter.mono _ _
   | exact LeO.none _
   | refine LeO.ite ?_ ?_
   | refine LeO.bind ?_ (fun _ => ?_)
  ·intro y0 y1 y2 y3 y4 y5 y6
   unfold impl_LevelsBack.l0
   repeat' first
   | (with_reducible exact ih0 _ _ _ _ _ _)
   | (with_reducible exact ih1 _ _ _ _ _ _ _)
   | (with_reducible exact ih2 _ _ _ _ _ _ _)
   | (with_reducible exact ih3 _ _ _ _ _ _ _ _ _ _ _)
   | (with_reducible exact ih4 _ _ _ _ _ _ _ _ _ _ _)
   | (with_reducible exact impl_EightBack.mono _ _)
   | (with_reducible exact impl_FourBack.mono _ _)
   | (with_reducible exact impl_SmallBack.mono _ _ _ _)
   | (with_reducible exact impl_Unscanned.mono _ _ _)
   | (with_reducible exact impl_areLevels.mono _ _)
   | (with_reducible exact impl_quarter.mono _ _)
   | (with_reducible exact LeO.refl _)
   | (with_reducible exact LeO.none _)
   | (with_reducible refine LeO.ite ?_ ?_)
   | (with_reducible refine LeO.bind ?_ (fun _ => ?_))
   | exact ih0 _ _ _ _ _ _
   | exact ih1 _ _ _ _ _ _ _
   | exact ih2 _ _ _ _ _ _ _
   | exact ih3 _ _ _ _ _ _ _ _ _ _ _
   | exact ih4 _ _ _ _ _ _ _ _ _ _ _
   | exact impl_EightBack.mono _ _
   | exact impl_FourBack.mono _ _
   | exact impl_SmallBack.mono _ _ _ _
   | exact impl_Unscanned.mono _ _ _
   | exact impl_areLevels.mono _ _
   | exact impl_quarter.mono _ _
   | exact LeO.none _
   | refine LeO.ite ?_ ?_
   | refine LeO.bind ?_ (fun _ => ?_)
  ·intro y0 y1 y2 y3 y4 y5 y6
   unfold impl_LevelsBack.l1
   repeat' first
   | (with_reducible exact ih0 _ _ _ _ _ _)
   | (with_reducible exact ih1 _ _ _ _ _ _ _)
   | (with_reducible exact ih2 _ _ _ _ _ _ _)
   | (with_reducible exact ih3 _ _ _ _ _ _ _ _ _ _ _)
   | (with_reducible exact ih4 _ _ _ _ _ _ _ _ _ _ _)
   | (with_reducible exact impl_EightBack.mono _ _)
   | (with_reducible exact impl_FourBack.mono _ _)
   | (with_reducible exact impl_SmallBack.mono _ _ _ _)
   | (with_reducible exact impl_Unscanned.mono _ _ _)
   | (with_reducible exact impl_areLevels.mono _ _)
   | (with_reducible exact impl_quarter.mono _ _)
   | (with_reducible exact LeO.refl _)
   | (with_reducible exact LeO.none _)
   | (with_reducible refine LeO.ite ?_ ?_)
   | (with_reducible refine LeO.bind ?_ (fun _ => ?_))
   | exact ih0 _ _ _ _ _ _
   | exact ih1 _ _ _ _ _ _ _
   | exact ih2 _ _ _ _ _ _ _
   | exact ih3 _ _ _ _ _ _ _ _ _ _ _
   | exact ih4 _ _ _ _ _ _ _ _ _ _ _
   | exact impl_EightBack.mono _ _
   | exact impl_FourBack.mono _ _
   | exact impl_SmallBack.mono _ _ _ _
   | exact impl_Unscanned.mono _ _ _
   | exact impl_areLevels.mono _ _
   | exact impl_quarter.mono _ _
   | exact LeO.none _
   | refine LeO.ite ?_ ?_
   | refine LeO.bind ?_ (fun _ => ?_)
  ·intro y0 y1 y2 y3 y4 y5 y6 y7 y8 y9 y10
   unfold impl_LevelsBack.l2
   repeat' first
   | (with_reducible exact ih0 _ _ _ _ _ _)
   | (with_reducible exact ih1 _ _ _ _ _ _ _)
   | (with_reducible exact ih2 _ _ _ _ _ _ _)
   | (with_reducible exact ih3 _ _ _ _ _ _ _ _ _ _ _)
   | (with_reducible exact ih4 _ _ _ _ _ _ _ _ _ _ _)
   | (with_reducible exact impl_EightBack.mono _ _)
   | (with_reducible exact impl_FourBack.mono _ _)
   | (with_reducible exact impl_SmallBack.mono _ _ _ _)
   | (with_reducible exact impl_Unscanned.mono _ _ _)
   | (with_reducible exact impl_areLevels.mono _ _)
   | (with_reducible exact impl_quarter.mono _ _)
   | (with_reducible exact LeO.refl _)
   | (with_reducible exact LeO.none _)
   | (with_reducible refine LeO.ite ?_ ?_)
   | (with_reducible refine LeO.bind ?_ (fun _ => ?_))
   | exact ih0 _ _ _ _ _ _
   | exact ih1 _ _ _ _ _ _ _
   | exact ih2 _ _ _ _ _ _ _
   | exact ih3 _ _ _ _ _ _ _ _ _ _ _
   | exact ih4 _ _ _ _ _ _ _ _ _ _ _
   | exact impl_EightBack.mono _ _
   | exact impl_FourBack.mono _ _
   | exact impl_SmallBack.mono _ _ _ _
   | exact impl_Unscanned.mono _ _ _
   | exact impl_areLevels.mono _ _
   | exact impl_quarter.mono _ _
   | exact LeO.none _
   | refine LeO.ite ?_ ?_
   | refine LeO.bind ?_ (fun _ => ?_)
  ·intro y0 y1 y2 y3 y4 y5 y6 y7 y8 y9 y10
   unfold impl_LevelsBack.l3
   repeat' first
   | (with_reducible exact ih0 _ _ _ _ _ _)
   | (with_reducible exact ih1 _ _ _ _ _ _ _)
   | (with_reducible exact ih2 _ _ _ _ _ _ _)
   | (with_reducible exact ih3 _ _ _ _ _ _ _ _ _ _ _)
   | (with_reducible exact ih4 _ _ _ _ _ _ _ _ _ _ _)
   | (with_reducible exact impl_EightBack.mono _ _)
   | (with_reducible exact impl_FourBack.mono _ _)
   | (with_reducible exact impl_SmallBack.mono _ _ _ _)
   | (with_reducible exact impl_Unscanned.mono _ _ _)
   | (with_reducible exact impl_areLevels.mono _ _)
   | (with_reducible exact impl_quarter.mono _ _)
   | (with_reducible exact LeO.refl _)
   | (with_reducible exact LeO.none _)
   | (with_reducible refine LeO.ite ?_ ?_)
   | (with_reducible refine LeO.bind ?_ (fun _ => ?_))
   | exact ih0 _ _ _ _ _ _
   | exact ih1 _ _ _ _ _ _ _
   | exact ih2 _ _ _ _ _ _ _
   | exact ih3 _ _ _ _ _ _ _ _ _ _ _
   | exact ih4 _ _ _ _ _ _ _ _ _ _ _
   | exact impl_EightBack.mono _ _
   | exact impl_FourBack.mono _ _
   | exact impl_SmallBack.mono _ _ _ _
   | exact impl_Unscanned.mono _ _ _
   | exact impl_areLevels.mono _ _
   | exact impl_quarter.mono _ _
   | exact LeO.none _
   | refine LeO.ite ?_ ?_
   | refine LeO.bind ?_ (fun _ => ?_)
theorem impl_LevelsBack.mono : ∀ a0 a1 a2 a3 a4 k, LeO (impl_LevelsBack.f k a0 a1 a2 a3 a4) (impl_LevelsBack.f (k + 1) a0 a1 a2 a3 a4) := by
 intro a0 a1 a2 a3 a4 k
 obtain ⟨ih0, ih1, ih2, ih3, ih4⟩ := impl_LevelsBack.mono_l k
 unfold impl_LevelsBack.f
 repeat' first
   | (with_reducible exact ih0 _ _ _ _ _ _)
   | (with_reducible exact ih1 _ _ _ _ _ _ _)
   | (with_reducible exact ih2 _ _ _ _ _ _ _)
   | (with_reducible exact ih3 _ _ _ _ _ _ _ _ _ _ _)
   | (with_reducible exact ih4 _ _ _ _ _ _ _ _ _ _ _)
   | (with_reducible exact impl_EightBack.mono _ _)
   | (with_reducible exact impl_FourBack.mono _ _)
   | (with_reducible exact impl_SmallBack.mono _ _ _ _)
   | (with_reducible exact impl_Unscanned.mono _ _ _)
   | (with_reducible exact impl_areLevels.mono _ _)
   | (with_reducible exact impl_quarter.mono _ _)
   | (with_reducible exact LeO.refl _)
   | (with_reducible exact LeO.none _)
   | (with_reducible refine LeO.ite ?_ ?_)
   | (with_reducible refine LeO.bind ?_ (fun _ => ?_))
   | exact ih0 _ _ _ _ _ _
   | exact ih1 _ _ _ _ _ _ _
   | exact ih2 _ _ _ _ _ _ _
   | exact ih3 _ _ _ _ _ _ _ _ _ _ _
   | exact ih4 _ _ _ _ _ _ _ _ _ _ _
   | exact impl_EightBack.mono _ _
   | exact impl_FourBack.mono _ _
   | exact impl_SmallBack.mono _ _ _ _
   | exact impl_Unscanned.mono _ _ _
   | exact impl_areLevels.mono _ _
   | exact impl_quarter.mono _ _
   | exact LeO.none _
   | refine LeO.ite ?_ ?_
   | refine LeO.bind ?_ (fun _ => ?_)
set_option maxHeartbeats 8000000 in
set_option maxRecDepth 100000 in
theorem impl_LevelsBack.calls (k : Nat) (A0 : Option Addr) (c0 : Nat) (l0 : List Int) (a1_0 : Bool) (a1_1 : Int) (a1_2 : Bool) (a1_3 : Bool) (r1 : List Int) (r2 : Bool) (w : World) (hr0 : Kd.C (Kd.int .i64) w A0 l0.length l0) (hc0 : l0.length ≤ c0) (h : impl_LevelsBack.f k l0 a1_0 a1_1 a1_2 a1_3 = some (r1, r2)) :
  Calls Try.prog 52 #[.slice A0 l0.length c0, .agg #[.bool a1_0, .int .i64 a1_1, .bool a1_2, .bool a1_3]] w fun e w' => ∃ v0_ : Value, e = .returned (.tuple #[v0_, .bool r2]) ∧ Kd.R (Kd.int .i64) 3 w' w.heap.size (fun _ => True) v0_ r1 ∧ Below w.heap.size w w' := by
 have hu40 := Try.underlying40
 have HR0 := Aside0.mk hr0
 have HC0 := Aside0.mk hc0
 clear hr0 hc0
 have HB := Aside0.mk (Below.refl w.heap.size w)
 have H : ((impl_areLevels.f k l0).bind fun t219 => (if t219 = true then ((impl_CondOk.f a1_0 a1_1 a1_2 a1_3).bind fun t220 => (impl_LevelsBack.j0 k l0 (!t220) a1_0 a1_1 a1_2 a1_3)) else (impl_LevelsBack.j0 k l0 true a1_0 a1_1 a1_2 a1_3))) = some (r1, r2) := h
 clear h
 have HC3 := Aside0.mk H
 clear H
 go_enter Try.func52, Try.ntmps52
 go_upto_region 1 with (first | ((with_reducible refine gate_dst (N := 3) rfl ?_); refine box_event ?hg (N := 3) ?hd (cs := #[.bool a1_0, .int .i64 a1_1, .bool a1_2, .bool a1_3]) (t := 40) ?hr ?_; (case hd => rfl); (case hg => rfl); (case hr => first | (go_simp; done) | (go_simp; rfl)); intro gb218 hg w4 hbox hb; have n0_ := Aside0.mk (below_step (by repeat (first | (with_reducible first | exact HB.out | apply below_alloc | apply pw_below_drewN | apply below_drew1) | exact HB.out)) hb); have n1_ := Aside0.mk (hbox); have n2_ := Aside0.mk ((by rw [hg]; exact (below_size (by repeat (first | (with_reducible first | exact HB.out | apply below_alloc | apply pw_below_drewN | apply below_drew1) | exact HB.out))) : w.heap.size ≤ gb218)); have n3_ := Aside0.mk ((by rw [hg]; exact (below_size (by repeat (first | (with_reducible first | exact HB.out | apply below_alloc | apply pw_below_drewN | apply below_drew1) | exact HB.out))) : w.heap.size ≤ gb218)); clear HB; have HB := n0_; have BK218 := n1_; have GW218 := n2_; have GE218 := n3_; clear n0_ n1_ n2_ n3_; clear hb hbox hg))
 (try simp only [Act.put, List.setIfInBounds_toArray, List.set_cons_zero, List.set_cons_succ])
 go_cut [26] (fun v26 wc => ∃ (kq : Nat) (x26_2 : Bool), v26 = .bool x26_2 ∧ Aside0 (impl_LevelsBack.j0 kq l0 x26_2 a1_0 a1_1 a1_2 a1_3 = some (r1, r2)) ∧ Aside0 (kq ≤ k) ∧ Aside0 (wc.heap[gb218]? = some (.cells #[.bool a1_0, .int .i64 a1_1, .bool a1_2, .bool a1_3] 40 (0, 0))) ∧ Aside0 (Below w.heap.size w wc))
 case first =>
  have H := HC3.out
  clear HC3
  replace H := Option.bind_eq_some_iff.mp H
  obtain ⟨t219, A50, H⟩ := H
  replace H : (if t219 = true then ((impl_CondOk.f a1_0 a1_1 a1_2 a1_3).bind fun t220 => (impl_LevelsBack.j0 k l0 (!t220) a1_0 a1_1 a1_2 a1_3)) else (impl_LevelsBack.j0 k l0 true a1_0 a1_1 a1_2 a1_3)) = some (r1, r2) := H
  have A5 := Aside0.mk A50
  clear A50
  by_cases c6 : t219 = true
  ·subst c6
   have H1 : ((impl_CondOk.f a1_0 a1_1 a1_2 a1_3).bind fun t220 => (impl_LevelsBack.j0 k l0 (!t220) a1_0 a1_1 a1_2 a1_3)) = some (r1, r2) := by rw [if_pos rfl] at H; exact H
   clear H
   have H := H1
   clear H1
   replace H := Option.bind_eq_some_iff.mp H
   obtain ⟨t220, A70, H⟩ := H
   replace H : (impl_LevelsBack.j0 k l0 (!t220) a1_0 a1_1 a1_2 a1_3) = some (r1, r2) := H
   have A7 := Aside0.mk A70
   clear A70
   have H' := Aside0.mk H
   clear H
   go_wp2_with (first | ((with_reducible refine gate_callee (f := 94) rfl ?_); refine goesL_ (some 20) rfl rfl Try.func94 (by kernel_rfl) rfl #[.slice A0 l0.length c0] rfl (by (try simp only [List.map_toArray, List.map_cons, List.map_nil]); first | done | rfl | (simp only [List.length_drop, List.length_take]; rfl)) ?_; (with_reducible refine (impl_areLevels.calls k _ _ l0 true _ ?side1 ?side2 A5.out).mono ?_); (case side1 => repeat (first | exact (Kd.C_below HR0.out HB.out) | (with_reducible refine Kd.C_alloc ?_ _) | (with_reducible refine Kd.C_drewN ?_ _) | (with_reducible refine Kd.C_drew ?_))); (case side2 => exact HC0.out); rintro e w' ⟨rfl, ⟨nd, rfl⟩⟩; refine ⟨_, rfl, ?_⟩; have hcz8_0 : w4.cell? ⟨gb218, 0, none⟩ = some (.bool a1_0) := (blk_cell BK218.out 0).trans rfl; have hcz8_1 : w4.cell? ⟨gb218, 1, none⟩ = some (.int .i64 a1_1) := (blk_cell BK218.out 1).trans rfl; have hcz8_2 : w4.cell? ⟨gb218, 2, none⟩ = some (.bool a1_2) := (blk_cell BK218.out 2).trans rfl; have hcz8_3 : w4.cell? ⟨gb218, 3, none⟩ = some (.bool a1_3) := (blk_cell BK218.out 3).trans rfl; have hfz8_0 := blk_frozen BK218.out 0; have hfz8_1 := blk_frozen BK218.out 1; have hfz8_2 := blk_frozen BK218.out 2; have hfz8_3 := blk_frozen BK218.out 3) | (go_at_call 58; (with_reducible refine (impl_CondOk.calls a1_0 a1_1 a1_2 a1_3 t220 _ A7.out).mono ?_); rintro e w9 ⟨rfl, hb⟩; have n0_ := Aside0.mk (blk_below (g := gb218) (o := .cells #[.bool a1_0, .int .i64 a1_1, .bool a1_2, .bool a1_3] 40 (0, 0)) (by (with_reducible repeat (first | refine blk_drewN ?_ _ | refine blk_drew ?_ | refine blk_alloc ?_ _)); exact BK218.out) hb); have n1_ := Aside0.mk (below_step (by repeat (first | (with_reducible first | exact HB.out | apply below_alloc | apply pw_below_drewN | apply below_drew1 | refine below_set ?_ GE218.out) | exact HB.out)) hb); clear BK218; clear HB; have BK218 := n0_; have HB := n1_; clear n0_ n1_; (try clear hb); (try clear hb2); (try clear hk); (try clear hi)))
   go_meet
   case rel => exact ⟨_, (!t220), (by first | rfl | (simp; done) | (simp [*]; done)), H', ⟨by first | omega | exact Nat.le_refl _⟩, ⟨by (with_reducible repeat (first | refine blk_drewN ?_ _ | refine blk_drew ?_ | refine blk_alloc ?_ _)); exact BK218.out⟩, ⟨by repeat (first | (with_reducible first | exact HB.out | apply below_alloc | apply pw_below_drewN | apply below_drew1 | refine below_set ?_ GE218.out) | exact HB.out)⟩⟩
  ·replace c6 := Bool.eq_false_iff.mpr c6
   subst c6
   have H1 : (impl_LevelsBack.j0 k l0 true a1_0 a1_1 a1_2 a1_3) = some (r1, r2) := by rw [if_neg (show ¬ (false = true) by decide)] at H; exact H
   clear H
   have H := H1
   clear H1
   have H' := Aside0.mk H
   clear H
   go_wp2_with (first | ((with_reducible refine gate_callee (f := 94) rfl ?_); refine goesL_ (some 20) rfl rfl Try.func94 (by kernel_rfl) rfl #[.slice A0 l0.length c0] rfl (by (try simp only [List.map_toArray, List.map_cons, List.map_nil]); first | done | rfl | (simp only [List.length_drop, List.length_take]; rfl)) ?_; (with_reducible refine (impl_areLevels.calls k _ _ l0 false _ ?side1 ?side2 A5.out).mono ?_); (case side1 => repeat (first | exact (Kd.C_below HR0.out HB.out) | (with_reducible refine Kd.C_alloc ?_ _) | (with_reducible refine Kd.C_drewN ?_ _) | (with_reducible refine Kd.C_drew ?_))); (case side2 => exact HC0.out); rintro e w' ⟨rfl, ⟨nd, rfl⟩⟩; refine ⟨_, rfl, ?_⟩))
   go_meet
   case rel => exact ⟨_, (true), (by first | rfl | (simp; done) | (simp [*]; done)), H', ⟨by first | omega | exact Nat.le_refl _⟩, ⟨by (with_reducible repeat (first | refine blk_drewN ?_ _ | refine blk_drew ?_ | refine blk_alloc ?_ _)); exact BK218.out⟩, ⟨by repeat (first | (with_reducible first | exact HB.out | apply below_alloc | apply pw_below_drewN | apply below_drew1 | refine below_set ?_ GE218.out) | exact HB.out)⟩⟩
 case rest =>
  clear HC3
  try clear p2
  try clear c5
  try clear c6
  try clear c9
  try clear hcz8_0
  try clear hcz8_1
  try clear hcz8_2
  try clear hcz8_3
  try clear hfz8_0
  try clear hfz8_1
  try clear hfz8_2
  try clear hfz8_3
  obtain ⟨kq, x26_2, rfl, HA, HJ2, BK218, HB⟩ := hcut
  cases kq with
  | zero => exact absurd HA.out (by simp [impl_LevelsBack.j0])
  | succ kj2 =>
   have H := HA.out
   clear HA
   simp only [impl_LevelsBack.j0] at H
   by_cases c10 : x26_2 = true
   ·subst c10
    have H1 : (some ((([] : List Int)), false)) = some (r1, r2) := by rw [if_pos rfl] at H; exact H
    clear H
    have H := H1
    clear H1
    obtain ⟨y221, hy221⟩ : ∃ y_ : List Int, y_ = (([] : List Int)) := ⟨_, rfl⟩
    replace H : (some (y221, false)) = some (r1, r2) := by first | (rw [hy221]; with_reducible exact H) | (have H2_ := (Option.bind_some _ _).symm.trans H; rw [hy221]; with_reducible exact H2_) | (have H2_ := (Option.bind_some _ _).symm.trans H; with_reducible exact H2_) | with_reducible exact H | (rw [hy221]; exact H) | exact H
    have Ny221 := Aside0.mk hy221
    clear hy221
    simp only [Option.some.injEq, Prod.mk.injEq] at H
    obtain ⟨rfl, rfl⟩ := H
    go_wp2_with (first | ((with_reducible refine gate_dst (N := 27) rfl ?_); refine Kd.R_lit (Kd.int .i64) _ 3 ?hg (N := 27) ?hd (xs := ([] : List Int)) (inner := []) (ok := fun _ => True) (okp := fun _ => True) ?hr ?hp (fun _ hk => hk) trivial (Below.refl _ _) (Nat.le_refl _) (by simp) ?_; (case hd => rfl); (case hg => rfl); (case hr => first | (go_simp; done) | (go_simp; rfl)); (case hp => exact (Reps.none _ _)); intro v222 w11 ho12 hb hg_ hnew_; clear hg_ hnew_; (first | rw [← Ny221.out] at ho12 | (simp only [Int.reduceToNat] at ho12; rw [← Ny221.out] at ho12)); have n0_ := Aside0.mk (Kd.R_lower ho12 (below_size (by repeat (first | (with_reducible first | exact HB.out | apply below_alloc | apply pw_below_drewN | apply below_drew1 | refine below_set ?_ GE218.out) | exact HB.out)))); have n1_ := Aside0.mk (blk_below (g := gb218) (o := .cells #[.bool a1_0, .int .i64 a1_1, .bool a1_2, .bool a1_3] 40 (0, 0)) (by (with_reducible repeat (first | refine blk_drewN ?_ _ | refine blk_drew ?_ | refine blk_alloc ?_ _)); exact BK218.out) hb); have n2_ := Aside0.mk (below_step (by repeat (first | (with_reducible first | exact HB.out | apply below_alloc | apply pw_below_drewN | apply below_drew1 | refine below_set ?_ GE218.out) | exact HB.out)) hb); clear BK218; clear HB; have HO223 := n0_; have BK218 := n1_; have HB := n2_; clear n0_ n1_ n2_; clear hb ho12))
    go_ret2
    exact ⟨_, by first | rfl | (simp [errW_none, errW_some] <;> rfl) | (simp [*, errW_none, errW_some] <;> rfl), by (with_reducible repeat (first | apply Kd.R_alloc | apply Kd.R_drewN | apply Kd.R_drew)); exact HO223.out, by repeat (first | (with_reducible first | exact HB.out | apply below_alloc | apply pw_below_drewN | apply below_drew1 | refine below_set ?_ GE218.out) | exact HB.out)⟩
   ·replace c10 := Bool.eq_false_iff.mpr c10
    subst c10
    have H1 : (if a1_3 = true then ((impl_Unscanned.f kj2 8 l0).bind fun bt224 => (some (bt224.1, bt224.2))) else (if a1_2 = true then ((impl_Unscanned.f kj2 8 l0).bind fun bt228 => (impl_LevelsBack.l0 kj2 bt228.1 (bt228.1.length : Int) 0 a1_0 a1_1 a1_2 a1_3)) else (if 64 ≤ 35184372088832 then (impl_LevelsBack.l1 kj2 l0 (List.replicate 64 0) 0 a1_0 a1_1 a1_2 a1_3) else (none)))) = some (r1, r2) := by rw [if_neg (show ¬ (false = true) by decide)] at H; exact H
    clear H
    have H := H1
    clear H1
    by_cases c13 : a1_3 = true
    ·subst c13
     have H1 : ((impl_Unscanned.f kj2 8 l0).bind fun bt224 => (some (bt224.1, bt224.2))) = some (r1, r2) := by rw [if_pos rfl] at H; exact H
     clear H
     have H := H1
     clear H1
     replace H := Option.bind_eq_some_iff.mp H
     obtain ⟨⟨t224, t225⟩, A140, H⟩ := H
     replace H : (some (t224, t225)) = some (r1, r2) := H
     have A14 := Aside0.mk A140
     clear A140
     simp only [Option.some.injEq, Prod.mk.injEq] at H
     obtain ⟨rfl, rfl⟩ := H
     have hcz15_0 : wc.cell? ⟨gb218, 0, none⟩ = some (.bool a1_0) := (blk_cell BK218.out 0).trans rfl
     have hcz15_1 : wc.cell? ⟨gb218, 1, none⟩ = some (.int .i64 a1_1) := (blk_cell BK218.out 1).trans rfl
     have hcz15_2 : wc.cell? ⟨gb218, 2, none⟩ = some (.bool a1_2) := (blk_cell BK218.out 2).trans rfl
     have hcz15_3 : wc.cell? ⟨gb218, 3, none⟩ = some (.bool true) := (blk_cell BK218.out 3).trans rfl
     have hfz15_0 := blk_frozen BK218.out 0
     have hfz15_1 := blk_frozen BK218.out 1
     have hfz15_2 := blk_frozen BK218.out 2
     have hfz15_3 := blk_frozen BK218.out 3
     go_wp2_with (first | ((with_reducible refine gate_callee (f := 108) rfl ?_); refine goesL_ (some 31) rfl rfl Try.func108 (by kernel_rfl) rfl #[.int .i64 8, .slice A0 l0.length c0] rfl (by (try simp only [List.map_toArray, List.map_cons, List.map_nil]); first | done | rfl | (simp only [List.length_drop, List.length_take]; rfl)) ?_; (with_reducible refine (impl_Unscanned.calls kj2 8 _ _ l0 t224 t225 _ ?side1 ?side2 A14.out).mono ?_); (case side1 => repeat (first | exact (Kd.C_below HR0.out HB.out) | (with_reducible refine Kd.C_alloc ?_ _) | (with_reducible refine Kd.C_drewN ?_ _) | (with_reducible refine Kd.C_drew ?_))); (case side2 => exact HC0.out); rintro e w16 ⟨v226, rfl, ho0, hb⟩; refine ⟨_, rfl, ?_⟩; have n0_ := Aside0.mk (Kd.R_lower ho0 (below_size (by repeat (first | (with_reducible first | exact HB.out | apply below_alloc | apply pw_below_drewN | apply below_drew1 | refine below_set ?_ GE218.out) | exact HB.out)))); have n1_ := Aside0.mk (blk_below (g := gb218) (o := .cells #[.bool a1_0, .int .i64 a1_1, .bool a1_2, .bool true] 40 (0, 0)) (by (with_reducible repeat (first | refine blk_drewN ?_ _ | refine blk_drew ?_ | refine blk_alloc ?_ _)); exact BK218.out) hb); have n2_ := Aside0.mk (below_step (by repeat (first | (with_reducible first | exact HB.out | apply below_alloc | apply pw_below_drewN | apply below_drew1 | refine below_set ?_ GE218.out) | exact HB.out)) hb); clear BK218; clear HB; have HO227 := n0_; have BK218 := n1_; have HB := n2_; clear n0_ n1_ n2_; (try clear hb); (try clear hb2); (try clear hk); (try clear hi); (try clear ho0)))
     go_ret2
     exact ⟨_, by first | rfl | (simp [errW_none, errW_some] <;> rfl) | (simp [*, errW_none, errW_some] <;> rfl), by (with_reducible repeat (first | apply Kd.R_alloc | apply Kd.R_drewN | apply Kd.R_drew)); exact HO227.out, by repeat (first | (with_reducible first | exact HB.out | apply below_alloc | apply pw_below_drewN | apply below_drew1 | refine below_set ?_ GE218.out) | exact HB.out)⟩
    ·replace c13 := Bool.eq_false_iff.mpr c13
     subst c13
     have H1 : (if a1_2 = true then ((impl_Unscanned.f kj2 8 l0).bind fun bt228 => (impl_LevelsBack.l0 kj2 bt228.1 (bt228.1.length : Int) 0 a1_0 a1_1 a1_2 false)) else (if 64 ≤ 35184372088832 then (impl_LevelsBack.l1 kj2 l0 (List.replicate 64 0) 0 a1_0 a1_1 a1_2 false) else (none))) = some (r1, r2) := by rw [if_neg (show ¬ (false = true) by decide)] at H; exact H
     clear H
     have H := H1
     clear H1
     by_cases c17 : a1_2 = true
     ·subst c17
      have H1 : ((impl_Unscanned.f kj2 8 l0).bind fun bt228 => (impl_LevelsBack.l0 kj2 bt228.1 (bt228.1.length : Int) 0 a1_0 a1_1 true false)) = some (r1, r2) := by rw [if_pos rfl] at H; exact H
      clear H
      have H := H1
      clear H1
      replace H := Option.bind_eq_some_iff.mp H
      obtain ⟨⟨t228, t229⟩, A180, H⟩ := H
      replace H : (impl_LevelsBack.l0 kj2 t228 (t228.length : Int) 0 a1_0 a1_1 true false) = some (r1, r2) := H
      have A18 := Aside0.mk A180
      clear A180
      have H' := Aside0.mk H
      clear H
      have hcz19_0 : wc.cell? ⟨gb218, 0, none⟩ = some (.bool a1_0) := (blk_cell BK218.out 0).trans rfl
      have hcz19_1 : wc.cell? ⟨gb218, 1, none⟩ = some (.int .i64 a1_1) := (blk_cell BK218.out 1).trans rfl
      have hcz19_2 : wc.cell? ⟨gb218, 2, none⟩ = some (.bool true) := (blk_cell BK218.out 2).trans rfl
      have hcz19_3 : wc.cell? ⟨gb218, 3, none⟩ = some (.bool false) := (blk_cell BK218.out 3).trans rfl
      have hfz19_0 := blk_frozen BK218.out 0
      have hfz19_1 := blk_frozen BK218.out 1
      have hfz19_2 := blk_frozen BK218.out 2
      have hfz19_3 := blk_frozen BK218.out 3
      go_wp2_with (first | ((with_reducible refine gate_callee (f := 108) rfl ?_); refine goesL_ (some 38) rfl rfl Try.func108 (by kernel_rfl) rfl #[.int .i64 8, .slice A0 l0.length c0] rfl (by (try simp only [List.map_toArray, List.map_cons, List.map_nil]); first | done | rfl | (simp only [List.length_drop, List.length_take]; rfl)) ?_; (with_reducible refine (impl_Unscanned.calls kj2 8 _ _ l0 t228 t229 _ ?side1 ?side2 A18.out).mono ?_); (case side1 => repeat (first | exact (Kd.C_below HR0.out HB.out) | (with_reducible refine Kd.C_alloc ?_ _) | (with_reducible refine Kd.C_drewN ?_ _) | (with_reducible refine Kd.C_drew ?_))); (case side2 => exact HC0.out); rintro e w20 ⟨v230, rfl, ho0, hb⟩; refine ⟨_, rfl, ?_⟩; have n0_ := Aside0.mk (Kd.R_lower ho0 (below_size (by repeat (first | (with_reducible first | exact HB.out | apply below_alloc | apply pw_below_drewN | apply below_drew1 | refine below_set ?_ GE218.out) | exact HB.out)))); have n1_ := Aside0.mk (blk_below (g := gb218) (o := .cells #[.bool a1_0, .int .i64 a1_1, .bool true, .bool false] 40 (0, 0)) (by (with_reducible repeat (first | refine blk_drewN ?_ _ | refine blk_drew ?_ | refine blk_alloc ?_ _)); exact BK218.out) hb); have n2_ := Aside0.mk (below_step (by repeat (first | (with_reducible first | exact HB.out | apply below_alloc | apply pw_below_drewN | apply below_drew1 | refine below_set ?_ GE218.out) | exact HB.out)) hb); clear BK218; clear HB; have HO231 := n0_; have BK218 := n1_; have HB := n2_; clear n0_ n1_ n2_; (try clear hb); (try clear hb2); (try clear hk); (try clear hi); (try clear ho0); obtain ⟨Ao21, co21, eo21⟩ := Kd.R_slice HO231.out; subst eo21))
      go_loopg [43] kj2 (fun kq v43 w' => ∃ (x6_2 : List Int) (x43_2 : Int), v43 = .int .i64 x43_2 ∧ Aside0 (impl_LevelsBack.l0 kq x6_2 (t228.length : Int) x43_2 a1_0 a1_1 true false = some (r1, r2)) ∧ Aside0 (kq ≤ kj2) ∧ Aside0 (Kd.R (Kd.int .i64) 3 w' w.heap.size (fun _ => True) (.slice Ao21 t228.length co21) x6_2) ∧ Aside0 (w'.heap[gb218]? = some (.cells #[.bool a1_0, .int .i64 a1_1, .bool true, .bool false] 40 (0, 0))) ∧ Aside0 (Below w.heap.size w w'))
      case atStart => exact ⟨(t228), (0), (by first | rfl | (simp; done) | (simp [*]; done)), H', ⟨Nat.le_refl _⟩, ⟨by (with_reducible repeat (first | apply Kd.R_alloc | apply Kd.R_drewN | apply Kd.R_drew)); exact HO231.out⟩, ⟨by (with_reducible repeat (first | refine blk_drewN ?_ _ | refine blk_drew ?_ | refine blk_alloc ?_ _)); exact BK218.out⟩, ⟨by repeat (first | (with_reducible first | exact HB.out | apply below_alloc | apply pw_below_drewN | apply below_drew1 | refine below_set ?_ GE218.out) | exact HB.out)⟩⟩
      case round =>
       clear H'
       try clear c1
       try clear p2
       try clear c5
       try clear c6
       try clear c9
       try clear c10
       try clear c13
       try clear c17
       try clear hcz15_0
       try clear hcz15_1
       try clear hcz15_2
       try clear hcz15_3
       try clear hcz19_0
       try clear hcz19_1
       try clear hcz19_2
       try clear hcz19_3
       try clear hcz8_0
       try clear hcz8_1
       try clear hcz8_2
       try clear hcz8_3
       try clear hfz15_0
       try clear hfz15_1
       try clear hfz15_2
       try clear hfz15_3
       try clear hfz19_0
       try clear hfz19_1
       try clear hfz19_2
       try clear hfz19_3
       try clear hfz8_0
       try clear hfz8_1
       try clear hfz8_2
       try clear hfz8_3
       try clear p2
       obtain ⟨x6_2, x43_2, rfl, HA, HK2, HO_6, BK218, HB⟩ := hrel
       have hl6_2 := (Kd.R_reads' HO_6.out).1
       rw [hl6_2] at HO_6
       (try simp only [hl6_2])
       (try simp only [hl6_2] at BK218)
       cases gk with
       | zero => exact absurd HA.out (by simp [impl_LevelsBack.l0])
       | succ k2 =>
        have H := HA.out
        clear HA
        simp only [impl_LevelsBack.l0] at H
        by_cases c22 : x43_2 < (t228.length : Int)
        ·rw [if_pos c22] at H
         have c22b0 : decide (x43_2 < (t228.length : Int)) = true := decide_eq_true c22
         (try (have c22b0h := c22b0; simp only [hl6_2] at c22b0h))
         clear c22
         by_cases c23 : 0 ≤ x43_2
         ·rw [if_pos c23] at H
          have c23b0 : decide (0 ≤ x43_2) = true := decide_eq_true c23
          (try (have c23b0h := c23b0; simp only [hl6_2] at c23b0h))
          clear c23
          by_cases c24 : x43_2 < (x6_2.length : Int)
          ·rw [if_pos c24] at H
           have c24b0 : decide (x43_2 < (x6_2.length : Int)) = true := decide_eq_true c24
           (try (have c24b0h := c24b0; simp only [hl6_2] at c24b0h))
           clear c24
           replace H := Option.bind_eq_some_iff.mp H
           obtain ⟨t233, A250, H⟩ := H
           replace H : (impl_LevelsBack.l0 k2 (x6_2.set (x43_2 : Int).toNat t233) (t228.length : Int) (wrap64 (x43_2 + 1)) a1_0 a1_1 true false) = some (r1, r2) := H
           have A25 := Aside0.mk A250
           clear A250
           obtain ⟨y234, hy234⟩ : ∃ y_ : List Int, y_ = (x6_2.set (x43_2 : Int).toNat t233) := ⟨_, rfl⟩
           replace H : (impl_LevelsBack.l0 k2 y234 (t228.length : Int) (wrap64 (x43_2 + 1)) a1_0 a1_1 true false) = some (r1, r2) := by first | (rw [hy234]; with_reducible exact H) | (have H2_ := (Option.bind_some _ _).symm.trans H; rw [hy234]; with_reducible exact H2_) | (have H2_ := (Option.bind_some _ _).symm.trans H; with_reducible exact H2_) | with_reducible exact H | (rw [hy234]; exact H) | exact H
           have Ny234 := Aside0.mk hy234
           clear hy234
           have H' := Aside0.mk H
           clear H
           have p232 : 0 ≤ (x43_2 : Int) := of_decide_eq_true (by first | (with_reducible assumption) | assumption)
           have q232 : x43_2 < (x6_2.length : Int) := of_decide_eq_true (by first | (with_reducible assumption) | assumption)
           obtain ⟨ad232, e232, hx232_0⟩ := Kd.at_int (Kd.R_reads' HO_6.out).2.2 x43_2 p232 q232
           cases e232
           replace p232 := eq_true p232
           replace q232 := eq_true q232
           have hcz27_0 : wr.cell? ⟨gb218, 0, none⟩ = some (.bool a1_0) := (blk_cell BK218.out 0).trans rfl
           have hcz27_1 : wr.cell? ⟨gb218, 1, none⟩ = some (.int .i64 a1_1) := (blk_cell BK218.out 1).trans rfl
           have hcz27_2 : wr.cell? ⟨gb218, 2, none⟩ = some (.bool true) := (blk_cell BK218.out 2).trans rfl
           have hcz27_3 : wr.cell? ⟨gb218, 3, none⟩ = some (.bool false) := (blk_cell BK218.out 3).trans rfl
           have hfz27_0 := blk_frozen BK218.out 0
           have hfz27_1 := blk_frozen BK218.out 1
           have hfz27_2 := blk_frozen BK218.out 2
           have hfz27_3 := blk_frozen BK218.out 3
           go_wp2_with (first | ((with_reducible refine gate_callee (f := 109) rfl ?_); refine goesL_ (some 53) rfl rfl Try.func109 (by kernel_rfl) rfl #[.int .i64 (rd x6_2 x43_2), .int .i64 a1_1] rfl (by (try simp only [List.map_toArray, List.map_cons, List.map_nil]); first | done | rfl | (simp only [List.length_drop, List.length_take]; rfl)) ?_; (with_reducible refine (impl_LargeBack.calls (rd x6_2 x43_2) a1_1 t233 _ A25.out).mono ?_); rintro e w28 ⟨rfl, hb⟩; refine ⟨_, rfl, ?_⟩; have n0_ := Aside0.mk (Kd.R_below (by (with_reducible repeat (first | apply Kd.R_alloc | apply Kd.R_drewN | apply Kd.R_drew)); exact HO_6.out) hb); have n1_ := Aside0.mk (blk_below (g := gb218) (o := .cells #[.bool a1_0, .int .i64 a1_1, .bool true, .bool false] 40 (0, 0)) (by (with_reducible repeat (first | refine blk_drewN ?_ _ | refine blk_drew ?_ | refine blk_alloc ?_ _)); exact BK218.out) hb); have n2_ := Aside0.mk (below_step (by repeat (first | (with_reducible first | exact HB.out | apply below_alloc | apply pw_below_drewN | apply below_drew1 | refine below_set ?_ GE218.out) | exact HB.out)) hb); clear HO_6; clear BK218; clear HB; have HO_6 := n0_; have BK218 := n1_; have HB := n2_; clear n0_ n1_ n2_; (try clear hb); (try clear hb2); (try clear hk); (try clear hi); have p26 : 0 ≤ (x43_2 : Int) := of_decide_eq_true (by first | (with_reducible assumption) | assumption); have q26 : (x43_2 : Int) < ((x6_2.length : Int) : Int) := of_decide_eq_true (by first | (with_reducible assumption) | assumption); obtain ⟨go26, co26, eo26, gb26, gl26, cl26, HG26⟩ := Kd.R_form HO_6.out (by omega); (first | cases eo26 | (injection eo26 with ea_ en_ ec_; (first | subst ea_ | (injection ea_ with ea_; subst ea_)); subst ec_; clear en_)); have GB26 := Aside0.mk gb26; have GG26 := Aside0.mk HG26; clear gb26 gl26 HG26; (first | simp only [add_plain] at hx232_0 | skip); obtain ⟨hx26_0, hf26_0⟩ := Kd.R_celln 0 HO_6.out (x43_2 : Int) p26 q26; replace p26 := eq_true p26; replace q26 := eq_true q26; obtain ⟨hy29_, hz29_⟩ := Kd.R_celln 0 HO_6.out (x43_2 : Int) (of_decide_eq_true (by first | (with_reducible assumption) | assumption)) (of_decide_eq_true (by first | (with_reducible assumption) | assumption)); have HP29 := Kd.R_putg HO_6.out (x43_2 : Int) t233) | ((with_reducible refine gate_store (t := 3) (p := 54) rfl ?_); refine store_event (t := 3) (p := 54) (v := ?vo_w30) (w1 := (w28.setCell ⟨go26, (x43_2 : Int).toNat, none⟩ (.int .i64 t233))) ?hg ?ho ?hn ?hr ?_; (case ho => rfl); (case hg => rfl); (case hn => rfl); (case hr => first | (go_simp; done) | (go_simp; rfl)); intro w30 hw; have hg : w28.grownBy w30 (some go26) := (by rw [hw]; exact HP29.2); have hp_ : Kd.R (Kd.int .i64) 3 w30 w.heap.size (fun _ => True) (.slice (some ⟨go26, 0, none⟩) x6_2.length co21) y234 := (by rw [hw, Ny234.out]; exact HP29.1); clear HP29; have n0_ := Aside0.mk (hp_); have n1_ := Aside0.mk (blk_grown (g := gb218) (o := .cells #[.bool a1_0, .int .i64 a1_1, .bool true, .bool false] 40 (0, 0)) (by (with_reducible repeat (first | refine blk_drewN ?_ _ | refine blk_drew ?_ | refine blk_alloc ?_ _)); exact BK218.out) hg (Kd.R_ne HO_6.out BK218.out (by decide))); have n2_ := Aside0.mk ((by rw [hw]; exact below_set (HB.out) GB26.out : Below w.heap.size w w30)); clear HO_6; clear BK218; clear HB; have HO_6 := n0_; have BK218 := n1_; have HB := n2_; clear n0_ n1_ n2_; clear hg hw hp_))
           (try simp only [← hl6_2])
           go_roundg k2
           case measure => have := HJ2.out; have := HK2.out; omega
           case rel => exact ⟨(y234), (wrap64 (x43_2 + 1)), (by first | rfl | (simp; done) | (simp [*]; done)), H', ⟨by have := HJ2.out; have := HK2.out; omega⟩, ⟨by (try simp only [hl6_2]); (with_reducible repeat (first | apply Kd.R_alloc | apply Kd.R_drewN | apply Kd.R_drew)); exact HO_6.out⟩, ⟨by (try simp only [hl6_2]); (with_reducible repeat (first | refine blk_drewN ?_ _ | refine blk_drew ?_ | refine blk_alloc ?_ _)); exact BK218.out⟩, ⟨by repeat (first | (with_reducible first | exact HB.out | apply below_alloc | apply pw_below_drewN | apply below_drew1 | refine below_set ?_ GE218.out) | exact HB.out)⟩⟩
          ·rw [if_neg c24] at H
           exact absurd H (by simp)
         ·rw [if_neg c23] at H
          exact absurd H (by simp)
        ·rw [if_neg c22] at H
         have c22b0 : decide (x43_2 < (t228.length : Int)) = false := decide_eq_false c22
         (try (have c22b0h := c22b0; simp only [hl6_2] at c22b0h))
         clear c22
         replace H := Option.bind_eq_some_iff.mp H
         obtain ⟨t235, A310, H⟩ := H
         replace H : (some (t235, true)) = some (r1, r2) := H
         have A31 := Aside0.mk A310
         clear A310
         simp only [Option.some.injEq, Prod.mk.injEq] at H
         obtain ⟨rfl, rfl⟩ := H
         go_wp2_with (first | ((with_reducible refine gate_callee (f := 18) rfl ?_); refine goesL_ (some 57) rfl rfl Try.func18 (by kernel_rfl) rfl #[.slice Ao21 x6_2.length co21] rfl (by (try simp only [List.map_toArray, List.map_cons, List.map_nil]); first | done | rfl | (simp only [List.length_drop, List.length_take]; rfl)) ?_; (with_reducible refine (impl_EightBack.calls k2 _ _ x6_2 t235 _ ?side1 ?side2 A31.out).mono ?_); (case side1 => repeat (first | exact (Kd.R_reads' HO_6.out).2.2 | (with_reducible refine Kd.C_alloc ?_ _) | (with_reducible refine Kd.C_drewN ?_ _) | (with_reducible refine Kd.C_drew ?_))); (case side2 => exact (Kd.R_reads' HO_6.out).2.1); rintro e w32 ⟨v236, rfl, ho0, hb⟩; refine ⟨_, rfl, ?_⟩; have n0_ := Aside0.mk (Kd.R_elder' (by (with_reducible repeat (first | apply Kd.R_alloc | apply Kd.R_drewN | apply Kd.R_drew)); exact HO_6.out) (Kd.R_base ho0) hb); have n1_ := Aside0.mk (Kd.R_lower (Kd.R_new' ho0 (Kd.R_lt (by (with_reducible repeat (first | apply Kd.R_alloc | apply Kd.R_drewN | apply Kd.R_drew)); exact HO_6.out))) (below_size (by repeat (first | (with_reducible first | exact HB.out | apply below_alloc | apply pw_below_drewN | apply below_drew1 | refine below_set ?_ GE218.out) | exact HB.out)))); have n2_ := Aside0.mk (blk_below (g := gb218) (o := .cells #[.bool a1_0, .int .i64 a1_1, .bool true, .bool false] 40 (0, 0)) (by (with_reducible repeat (first | refine blk_drewN ?_ _ | refine blk_drew ?_ | refine blk_alloc ?_ _)); exact BK218.out) hb); have n3_ := Aside0.mk (below_step (by repeat (first | (with_reducible first | exact HB.out | apply below_alloc | apply pw_below_drewN | apply below_drew1 | refine below_set ?_ GE218.out) | exact HB.out)) hb); clear HO_6; clear BK218; clear HB; have HO_6 := n0_; have HO237 := n1_; have BK218 := n2_; have HB := n3_; clear n0_ n1_ n2_ n3_; (try clear hb); (try clear hb2); (try clear hk); (try clear hi); (try clear ho0)))
         go_ret2
         exact ⟨_, by first | rfl | (simp [errW_none, errW_some] <;> rfl) | (simp [*, errW_none, errW_some] <;> rfl), by (with_reducible repeat (first | apply Kd.R_alloc | apply Kd.R_drewN | apply Kd.R_drew)); exact Kd.R_mono HO237.out (fun _ hk => trivial), by repeat (first | (with_reducible first | exact HB.out | apply below_alloc | apply pw_below_drewN | apply below_drew1 | refine below_set ?_ GE218.out) | exact HB.out)⟩
     ·replace c17 := Bool.eq_false_iff.mpr c17
      subst c17
      have H1 : (if 64 ≤ 35184372088832 then (impl_LevelsBack.l1 kj2 l0 (List.replicate 64 0) 0 a1_0 a1_1 false false) else (none)) = some (r1, r2) := by rw [if_neg (show ¬ (false = true) by decide)] at H; exact H
      clear H
      have H := H1
      clear H1
      by_cases c33 : 64 ≤ 35184372088832
      ·rw [if_pos c33] at H
       have c33b0 := eq_true c33
       have c33b1 : decide (64 ≤ 35184372088832) = true := decide_eq_true c33
       clear c33
       obtain ⟨y238, hy238⟩ : ∃ y_ : List Int, y_ = (List.replicate 64 0) := ⟨_, rfl⟩
       replace H : (impl_LevelsBack.l1 kj2 l0 y238 0 a1_0 a1_1 false false) = some (r1, r2) := by first | (rw [hy238]; with_reducible exact H) | (have H2_ := (Option.bind_some _ _).symm.trans H; rw [hy238]; with_reducible exact H2_) | (have H2_ := (Option.bind_some _ _).symm.trans H; with_reducible exact H2_) | with_reducible exact H | (rw [hy238]; exact H) | exact H
       have Ny238 := Aside0.mk hy238
       clear hy238
       have H' := Aside0.mk H
       clear H
       have hcz34_0 : wc.cell? ⟨gb218, 0, none⟩ = some (.bool a1_0) := (blk_cell BK218.out 0).trans rfl
       have hcz34_1 : wc.cell? ⟨gb218, 1, none⟩ = some (.int .i64 a1_1) := (blk_cell BK218.out 1).trans rfl
       have hcz34_2 : wc.cell? ⟨gb218, 2, none⟩ = some (.bool false) := (blk_cell BK218.out 2).trans rfl
       have hcz34_3 : wc.cell? ⟨gb218, 3, none⟩ = some (.bool false) := (blk_cell BK218.out 3).trans rfl
       have hfz34_0 := blk_frozen BK218.out 0
       have hfz34_1 := blk_frozen BK218.out 1
       have hfz34_2 := blk_frozen BK218.out 2
       have hfz34_3 := blk_frozen BK218.out 3
       go_wp2_with (first | ((with_reducible refine gate_dst (N := 58) rfl ?_); refine Kd.R_make (Kd.int .i64) _ 3 rfl (N := 58) rfl 24 _ _ rfl 64 rfl rfl Try.underlying24 (.int .i64 0) 8 info3 rfl (by decide) (by omega) 0 (ok := fun _ => True) (okp := fun _ => True) rfl (fun _ hk => hk) trivial (by omega) (by omega) (Below.refl _ _) (Nat.le_refl _) ?_; intro v239 w35 ho36 hb hg_ hnew_; clear hg_ hnew_; (first | rw [← Ny238.out] at ho36 | (simp only [Int.reduceToNat] at ho36; rw [← Ny238.out] at ho36)); have n0_ := Aside0.mk (Kd.R_lower ho36 (below_size (by repeat (first | (with_reducible first | exact HB.out | apply below_alloc | apply pw_below_drewN | apply below_drew1 | refine below_set ?_ GE218.out) | exact HB.out)))); have n1_ := Aside0.mk (blk_below (g := gb218) (o := .cells #[.bool a1_0, .int .i64 a1_1, .bool false, .bool false] 40 (0, 0)) (by (with_reducible repeat (first | refine blk_drewN ?_ _ | refine blk_drew ?_ | refine blk_alloc ?_ _)); exact BK218.out) hb); have n2_ := Aside0.mk (below_step (by repeat (first | (with_reducible first | exact HB.out | apply below_alloc | apply pw_below_drewN | apply below_drew1 | refine below_set ?_ GE218.out) | exact HB.out)) hb); clear BK218; clear HB; have HO240 := n0_; have BK218 := n1_; have HB := n2_; clear n0_ n1_ n2_; clear hb ho36))
       go_loopg [59] kj2 (fun kq v59 w' => ∃ (x10_2 : List Int) (x59_2 : Int), v59 = .int .i64 x59_2 ∧ Aside0 (impl_LevelsBack.l1 kq l0 x10_2 x59_2 a1_0 a1_1 false false = some (r1, r2)) ∧ Aside0 (kq ≤ kj2) ∧ Aside0 (Kd.R (Kd.int .i64) 3 w' w.heap.size (fun _ => True) v239 x10_2) ∧ Aside0 (w'.heap[gb218]? = some (.cells #[.bool a1_0, .int .i64 a1_1, .bool false, .bool false] 40 (0, 0))) ∧ Aside0 (Below w.heap.size w w'))
       case atStart => exact ⟨(y238), (0), (by first | rfl | (simp; done) | (simp [*]; done)), H', ⟨Nat.le_refl _⟩, ⟨by (with_reducible repeat (first | apply Kd.R_alloc | apply Kd.R_drewN | apply Kd.R_drew)); exact HO240.out⟩, ⟨by (with_reducible repeat (first | refine blk_drewN ?_ _ | refine blk_drew ?_ | refine blk_alloc ?_ _)); exact BK218.out⟩, ⟨by repeat (first | (with_reducible first | exact HB.out | apply below_alloc | apply pw_below_drewN | apply below_drew1 | refine below_set ?_ GE218.out) | exact HB.out)⟩⟩
       case round =>
        clear H'
        try clear c1
        try clear c2
        try clear p2
        try clear q2
        try clear hx2
        try clear hf2
        try clear c3
        try clear c5
        try clear c6
        try clear p6
        try clear c9
        try clear c10
        try clear c13
        try clear c17
        try clear c18
        try clear c22
        try clear c22b0
        try clear c23
        try clear c23b0
        try clear p23
        try clear q23
        try clear hx23
        try clear c24
        try clear c24b0
        try clear p26
        try clear q26
        try clear hx26
        try clear hf26
        try clear c33
        try clear c33b0
        try clear c33b1
        try clear hcz15_0
        try clear hcz15_1
        try clear hcz15_2
        try clear hcz15_3
        try clear hcz19_0
        try clear hcz19_1
        try clear hcz19_2
        try clear hcz19_3
        try clear hcz27_0
        try clear hcz27_1
        try clear hcz27_2
        try clear hcz27_3
        try clear hcz34_0
        try clear hcz34_1
        try clear hcz34_2
        try clear hcz34_3
        try clear hcz8_0
        try clear hcz8_1
        try clear hcz8_2
        try clear hcz8_3
        try clear hfz15_0
        try clear hfz15_1
        try clear hfz15_2
        try clear hfz15_3
        try clear hfz19_0
        try clear hfz19_1
        try clear hfz19_2
        try clear hfz19_3
        try clear hfz27_0
        try clear hfz27_1
        try clear hfz27_2
        try clear hfz27_3
        try clear hfz34_0
        try clear hfz34_1
        try clear hfz34_2
        try clear hfz34_3
        try clear hfz8_0
        try clear hfz8_1
        try clear hfz8_2
        try clear hfz8_3
        try clear hx232_0
        try clear hx26_0
        try clear p2
        try clear p232
        try clear p26
        try clear q232
        try clear q26
        obtain ⟨x10_2, x59_2, rfl, HA, HK2, HO_10, BK218, HB⟩ := hrel
        cases gk with
        | zero => exact absurd HA.out (by simp [impl_LevelsBack.l1])
        | succ k2 =>
         have H := HA.out
         clear HA
         simp only [impl_LevelsBack.l1] at H
         by_cases c37 : x59_2 < 4
         ·rw [if_pos c37] at H
          have c37b0 : decide (x59_2 < 4) = true := decide_eq_true c37
          clear c37
          obtain ⟨ji38, hji38⟩ : ∃ j_ : Int, (wrap64 (16 * x59_2)) = j_ := ⟨_, rfl⟩
          replace H : (if 0 ≤ (ji38) then (if (ji38) ≤ (wrap64 ((ji38) + 16)) then (if (wrap64 ((ji38) + 16)) ≤ (l0.length : Int) then ((impl_Unscanned.f k2 4 ((l0.take ((wrap64 ((ji38) + 16)) : Int).toNat).drop ((ji38) : Int).toNat)).bind fun bt242 => (impl_LevelsBack.l2 k2 l0 x10_2 x59_2 bt242.1 x59_2 (bt242.1.length : Int) 0 a1_0 a1_1 false false)) else (none)) else (none)) else (none)) = some (r1, r2) := by first | (rw [hji38] at H; exact H) | (simp only [hji38] at H ⊢; exact H)
          have hji38w : (IntKind.i64.wrap (16 * x59_2)) = ji38 := (i64_w _).trans hji38
          by_cases c39 : 0 ≤ (ji38)
          ·rw [if_pos c39] at H
           have c39b0 := eq_true c39
           have c39b1 : decide (0 ≤ (ji38)) = true := decide_eq_true c39
           clear c39
           by_cases c40 : (ji38) ≤ (wrap64 ((ji38) + 16))
           ·rw [if_pos c40] at H
            have c40b0 := eq_true c40
            have c40b1 : decide ((ji38) ≤ (wrap64 ((ji38) + 16))) = true := decide_eq_true c40
            by_cases c41 : (wrap64 ((ji38) + 16)) ≤ (l0.length : Int)
            ·rw [if_pos c41] at H
             have c41b0 := eq_true c41
             have c41b1 : decide ((wrap64 ((ji38) + 16)) ≤ (l0.length : Int)) = true := decide_eq_true c41
             replace H := Option.bind_eq_some_iff.mp H
             obtain ⟨⟨t242, t243⟩, A420, H⟩ := H
             replace H : (impl_LevelsBack.l2 k2 l0 x10_2 x59_2 t242 x59_2 (t242.length : Int) 0 a1_0 a1_1 false false) = some (r1, r2) := H
             have A42 := Aside0.mk A420
             clear A420
             have H' := Aside0.mk H
             clear H
             obtain ⟨i043, hi043, _, hsz43, _⟩ := info_parts info3
             obtain ⟨A43, hcut43, hA43, hC43⟩ := print_mid_of (P := Try.prog) (Value.int .i64) 0 24 3 .i64 .i64 Try.underlying24 hi043 hsz43 A0 c0 l0 (ji38) (wrap64 ((ji38) + 16)) (of_decide_eq_true (by first | (with_reducible assumption) | assumption)) (by first | omega | exact of_decide_eq_true (by first | (with_reducible assumption) | assumption)) (of_decide_eq_true (by first | (with_reducible assumption) | assumption)) HC0.out
             have HR241 := Aside0.mk (Kd.C_of_reads (h1 := fun _ => rfl) (hA43 _ (Kd.reads_of_C HR0.out)))
             have HC241 := Aside0.mk hC43
             clear hA43 hC43 hi043 hsz43
             go_wp2_with (first | ((with_reducible refine gate_callee (f := 108) rfl ?_); refine goesL_ (some 70) rfl rfl Try.func108 (by kernel_rfl) rfl #[.int .i64 4, .slice A43 ((l0.take ((wrap64 ((ji38) + 16)) : Int).toNat).drop ((ji38) : Int).toNat).length (c0 - (ji38).toNat)] rfl (by (try simp only [List.map_toArray, List.map_cons, List.map_nil]); first | done | (rw [show ((l0.take ((wrap64 ((ji38) + 16)) : Int).toNat).drop ((ji38) : Int).toNat).length = ((wrap64 ((ji38) + 16)).toNat - (ji38).toNat) from (by rw [List.length_drop, List.length_take]; have h_ : ((wrap64 ((ji38) + 16)) : Int) ≤ (l0.length : Int) := of_decide_eq_true (by first | (with_reducible assumption) | assumption); omega)] <;> rfl) | (simp only [hji38]; rfl) | rfl | (simp only [List.length_drop, List.length_take]; rfl)) ?_; (with_reducible refine (impl_Unscanned.calls k2 4 _ _ ((l0.take ((wrap64 ((ji38) + 16)) : Int).toNat).drop ((ji38) : Int).toNat) t242 t243 _ ?side1 ?side2 A42.out).mono ?_); (case side1 => repeat (first | exact (Kd.C_below HR241.out HB.out) | (with_reducible refine Kd.C_alloc ?_ _) | (with_reducible refine Kd.C_drewN ?_ _) | (with_reducible refine Kd.C_drew ?_))); (case side2 => exact HC241.out); rintro e w44 ⟨v244, rfl, ho0, hb⟩; refine ⟨_, rfl, ?_⟩; have n0_ := Aside0.mk (Kd.R_elder' (by (with_reducible repeat (first | apply Kd.R_alloc | apply Kd.R_drewN | apply Kd.R_drew)); exact HO_10.out) (Kd.R_base ho0) hb); have n1_ := Aside0.mk (Kd.R_lower (Kd.R_new' ho0 (Kd.R_lt (by (with_reducible repeat (first | apply Kd.R_alloc | apply Kd.R_drewN | apply Kd.R_drew)); exact HO_10.out))) (below_size (by repeat (first | (with_reducible first | exact HB.out | apply below_alloc | apply pw_below_drewN | apply below_drew1 | refine below_set ?_ GE218.out) | exact HB.out)))); have n2_ := Aside0.mk (blk_below (g := gb218) (o := .cells #[.bool a1_0, .int .i64 a1_1, .bool false, .bool false] 40 (0, 0)) (by (with_reducible repeat (first | refine blk_drewN ?_ _ | refine blk_drew ?_ | refine blk_alloc ?_ _)); exact BK218.out) hb); have n3_ := Aside0.mk (below_step (by repeat (first | (with_reducible first | exact HB.out | apply below_alloc | apply pw_below_drewN | apply below_drew1 | refine below_set ?_ GE218.out) | exact HB.out)) hb); clear HO_10; clear BK218; clear HB; have HO_10 := n0_; have HO245 := n1_; have BK218 := n2_; have HB := n3_; clear n0_ n1_ n2_ n3_; (try clear hb); (try clear hb2); (try clear hk); (try clear hi); (try clear ho0); obtain ⟨Ao45, co45, eo45⟩ := Kd.R_slice HO245.out; subst eo45))
             go_loopg [75] k2 (fun kq v75 w' => ∃ (x12_3 : List Int) (x75_3 : Int), v75 = .int .i64 x75_3 ∧ Aside0 (impl_LevelsBack.l2 kq l0 x10_2 x59_2 x12_3 x59_2 (t242.length : Int) x75_3 a1_0 a1_1 false false = some (r1, r2)) ∧ Aside0 (kq ≤ k2) ∧ Aside0 (Kd.R (Kd.int .i64) 3 w' w.heap.size (fun k_ => some k_ ≠ ((.slice Ao45 t242.length co45) : Value).ownBlock) v239 x10_2) ∧ Aside0 (Kd.R (Kd.int .i64) 3 w' w.heap.size (fun k_ => some k_ ≠ (v239 : Value).ownBlock) (.slice Ao45 t242.length co45) x12_3) ∧ Aside0 (w'.heap[gb218]? = some (.cells #[.bool a1_0, .int .i64 a1_1, .bool false, .bool false] 40 (0, 0))) ∧ Aside0 (Below w.heap.size w w'))
             case atStart => exact ⟨(t242), (0), (by first | rfl | (simp; done) | (simp [*]; done)), H', ⟨Nat.le_refl _⟩, ⟨by (with_reducible repeat (first | apply Kd.R_alloc | apply Kd.R_drewN | apply Kd.R_drew)); exact Kd.R_mono HO_10.out (fun _ hk => hk.2)⟩, ⟨by (with_reducible repeat (first | apply Kd.R_alloc | apply Kd.R_drewN | apply Kd.R_drew)); exact Kd.R_mono HO245.out (fun _ hk => hk.2)⟩, ⟨by (with_reducible repeat (first | refine blk_drewN ?_ _ | refine blk_drew ?_ | refine blk_alloc ?_ _)); exact BK218.out⟩, ⟨by repeat (first | (with_reducible first | exact HB.out | apply below_alloc | apply pw_below_drewN | apply below_drew1 | refine below_set ?_ GE218.out) | exact HB.out)⟩⟩
             case round =>
              clear H'
              try clear c1
              try clear c2
              try clear p2
              try clear q2
              try clear hx2
              try clear hf2
              try clear c3
              try clear c4
              try clear c5
              try clear c6
              try clear p6
              try clear c9
              try clear c10
              try clear c13
              try clear c17
              try clear c18
              try clear c22
              try clear c22b0
              try clear c23
              try clear c23b0
              try clear p23
              try clear q23
              try clear hx23
              try clear c24
              try clear c24b0
              try clear p26
              try clear q26
              try clear hx26
              try clear hf26
              try clear c33
              try clear c33b0
              try clear c33b1
              try clear c37
              try clear c37b0
              try clear c39
              try clear c39b0
              try clear c39b1
              try clear c40
              try clear c40b0
              try clear c40b1
              try clear c41
              try clear c41b0
              try clear c41b1
              try clear hcz15_0
              try clear hcz15_1
              try clear hcz15_2
              try clear hcz15_3
              try clear hcz19_0
              try clear hcz19_1
              try clear hcz19_2
              try clear hcz19_3
              try clear hcz27_0
              try clear hcz27_1
              try clear hcz27_2
              try clear hcz27_3
              try clear hcz34_0
              try clear hcz34_1
              try clear hcz34_2
              try clear hcz34_3
              try clear hcz8_0
              try clear hcz8_1
              try clear hcz8_2
              try clear hcz8_3
              try clear hfz15_0
              try clear hfz15_1
              try clear hfz15_2
              try clear hfz15_3
              try clear hfz19_0
              try clear hfz19_1
              try clear hfz19_2
              try clear hfz19_3
              try clear hfz27_0
              try clear hfz27_1
              try clear hfz27_2
              try clear hfz27_3
              try clear hfz34_0
              try clear hfz34_1
              try clear hfz34_2
              try clear hfz34_3
              try clear hfz8_0
              try clear hfz8_1
              try clear hfz8_2
              try clear hfz8_3
              try clear hx232_0
              try clear hx26_0
              try clear p2
              try clear p23
              try clear p232
              try clear p26
              try clear p6
              try clear q2
              try clear q23
              try clear q232
              try clear q26
              obtain ⟨x12_3, x75_3, rfl, HA, HK3, HO_10, HO_12, BK218, HB⟩ := hrel
              have hl12_3 := (Kd.R_reads' HO_12.out).1
              rw [hl12_3] at HO_12
              (try simp only [hl12_3])
              (try simp only [hl12_3] at BK218)
              (try simp only [hl12_3] at HO_10)
              cases gk with
              | zero => exact absurd HA.out (by simp [impl_LevelsBack.l2])
              | succ k3 =>
               have H := HA.out
               clear HA
               simp only [impl_LevelsBack.l2] at H
               by_cases c46 : x75_3 < (t242.length : Int)
               ·rw [if_pos c46] at H
                have c46b0 : decide (x75_3 < (t242.length : Int)) = true := decide_eq_true c46
                (try (have c46b0h := c46b0; simp only [hl12_3] at c46b0h))
                clear c46
                by_cases c47 : 0 ≤ x75_3
                ·rw [if_pos c47] at H
                 have c47b0 : decide (0 ≤ x75_3) = true := decide_eq_true c47
                 (try (have c47b0h := c47b0; simp only [hl12_3] at c47b0h))
                 clear c47
                 by_cases c48 : x75_3 < (x12_3.length : Int)
                 ·rw [if_pos c48] at H
                  have c48b0 : decide (x75_3 < (x12_3.length : Int)) = true := decide_eq_true c48
                  (try (have c48b0h := c48b0; simp only [hl12_3] at c48b0h))
                  clear c48
                  replace H := Option.bind_eq_some_iff.mp H
                  obtain ⟨t247, A490, H⟩ := H
                  replace H : (impl_LevelsBack.l2 k3 l0 x10_2 x59_2 (x12_3.set (x75_3 : Int).toNat t247) x59_2 (t242.length : Int) (wrap64 (x75_3 + 1)) a1_0 a1_1 false false) = some (r1, r2) := H
                  have A49 := Aside0.mk A490
                  clear A490
                  obtain ⟨y248, hy248⟩ : ∃ y_ : List Int, y_ = (x12_3.set (x75_3 : Int).toNat t247) := ⟨_, rfl⟩
                  replace H : (impl_LevelsBack.l2 k3 l0 x10_2 x59_2 y248 x59_2 (t242.length : Int) (wrap64 (x75_3 + 1)) a1_0 a1_1 false false) = some (r1, r2) := by first | (rw [hy248]; with_reducible exact H) | (have H2_ := (Option.bind_some _ _).symm.trans H; rw [hy248]; with_reducible exact H2_) | (have H2_ := (Option.bind_some _ _).symm.trans H; with_reducible exact H2_) | with_reducible exact H | (rw [hy248]; exact H) | exact H
                  have Ny248 := Aside0.mk hy248
                  clear hy248
                  have H' := Aside0.mk H
                  clear H
                  have p246 : 0 ≤ (x75_3 : Int) := of_decide_eq_true (by first | (with_reducible assumption) | assumption)
                  have q246 : x75_3 < (x12_3.length : Int) := of_decide_eq_true (by first | (with_reducible assumption) | assumption)
                  obtain ⟨ad246, e246, hx246_0⟩ := Kd.at_int (Kd.R_reads' HO_12.out).2.2 x75_3 p246 q246
                  cases e246
                  replace p246 := eq_true p246
                  replace q246 := eq_true q246
                  have hcz51_0 : wr.cell? ⟨gb218, 0, none⟩ = some (.bool a1_0) := (blk_cell BK218.out 0).trans rfl
                  have hcz51_1 : wr.cell? ⟨gb218, 1, none⟩ = some (.int .i64 a1_1) := (blk_cell BK218.out 1).trans rfl
                  have hcz51_2 : wr.cell? ⟨gb218, 2, none⟩ = some (.bool false) := (blk_cell BK218.out 2).trans rfl
                  have hcz51_3 : wr.cell? ⟨gb218, 3, none⟩ = some (.bool false) := (blk_cell BK218.out 3).trans rfl
                  have hfz51_0 := blk_frozen BK218.out 0
                  have hfz51_1 := blk_frozen BK218.out 1
                  have hfz51_2 := blk_frozen BK218.out 2
                  have hfz51_3 := blk_frozen BK218.out 3
                  go_wp2_with (first | ((with_reducible refine gate_callee (f := 110) rfl ?_); refine goesL_ (some 86) rfl rfl Try.func110 (by kernel_rfl) rfl #[.int .i64 (rd x12_3 x75_3), .int .i64 a1_1, .int .i64 x75_3] rfl (by (try simp only [List.map_toArray, List.map_cons, List.map_nil]); first | done | rfl | (simp only [List.length_drop, List.length_take]; rfl)) ?_; (with_reducible refine (impl_SmallBack.calls k3 (rd x12_3 x75_3) a1_1 x75_3 t247 _ A49.out).mono ?_); rintro e w52 ⟨rfl, hb⟩; refine ⟨_, rfl, ?_⟩; have n0_ := Aside0.mk (Kd.R_below (by (with_reducible repeat (first | apply Kd.R_alloc | apply Kd.R_drewN | apply Kd.R_drew)); exact HO_10.out) hb); have n1_ := Aside0.mk (Kd.R_below (by (with_reducible repeat (first | apply Kd.R_alloc | apply Kd.R_drewN | apply Kd.R_drew)); exact HO_12.out) hb); have n2_ := Aside0.mk (blk_below (g := gb218) (o := .cells #[.bool a1_0, .int .i64 a1_1, .bool false, .bool false] 40 (0, 0)) (by (with_reducible repeat (first | refine blk_drewN ?_ _ | refine blk_drew ?_ | refine blk_alloc ?_ _)); exact BK218.out) hb); have n3_ := Aside0.mk (below_step (by repeat (first | (with_reducible first | exact HB.out | apply below_alloc | apply pw_below_drewN | apply below_drew1 | refine below_set ?_ GE218.out) | exact HB.out)) hb); clear HO_10; clear HO_12; clear BK218; clear HB; have HO_10 := n0_; have HO_12 := n1_; have BK218 := n2_; have HB := n3_; clear n0_ n1_ n2_ n3_; (try clear hb); (try clear hb2); (try clear hk); (try clear hi); have p50 : 0 ≤ (x75_3 : Int) := of_decide_eq_true (by first | (with_reducible assumption) | assumption); have q50 : (x75_3 : Int) < ((x12_3.length : Int) : Int) := of_decide_eq_true (by first | (with_reducible assumption) | assumption); obtain ⟨go50, co50, eo50, gb50, gl50, cl50, HG50⟩ := Kd.R_form HO_12.out (by omega); (first | cases eo50 | (injection eo50 with ea_ en_ ec_; (first | subst ea_ | (injection ea_ with ea_; subst ea_)); subst ec_; clear en_)); have GB50 := Aside0.mk gb50; have GG50 := Aside0.mk HG50; clear gb50 gl50 HG50; (first | simp only [add_plain] at hx246_0 | skip); obtain ⟨hx50_0, hf50_0⟩ := Kd.R_celln 0 HO_12.out (x75_3 : Int) p50 q50; replace p50 := eq_true p50; replace q50 := eq_true q50; obtain ⟨hy53_, hz53_⟩ := Kd.R_celln 0 HO_12.out (x75_3 : Int) (of_decide_eq_true (by first | (with_reducible assumption) | assumption)) (of_decide_eq_true (by first | (with_reducible assumption) | assumption)); have HP53 := Kd.R_putg HO_12.out (x75_3 : Int) t247) | ((with_reducible refine gate_store (t := 3) (p := 87) rfl ?_); refine store_event (t := 3) (p := 87) (v := ?vo_w54) (w1 := (w52.setCell ⟨go50, (x75_3 : Int).toNat, none⟩ (.int .i64 t247))) ?hg ?ho ?hn ?hr ?_; (case ho => rfl); (case hg => rfl); (case hn => rfl); (case hr => first | (go_simp; done) | (go_simp; rfl)); intro w54 hw; have hg : w52.grownBy w54 (some go50) := (by rw [hw]; exact HP53.2); have hp_ : Kd.R (Kd.int .i64) 3 w54 w.heap.size (fun k_ => some k_ ≠ (v239 : Value).ownBlock) (.slice (some ⟨go50, 0, none⟩) x12_3.length co45) y248 := (by rw [hw, Ny248.out]; exact HP53.1); clear HP53; have n0_ := Aside0.mk (Kd.R_after (v := (.slice (some ⟨go50, 0, none⟩) x12_3.length co45)) (v1 := (.slice (some ⟨go50, 0, none⟩) x12_3.length co45)) (ok := (fun _ => True)) (by (with_reducible repeat (first | apply Kd.R_alloc | apply Kd.R_drewN | apply Kd.R_drew)); exact Kd.R_mono HO_10.out (fun _ hk => ⟨trivial, hk⟩)) hg (.inl rfl)); have n1_ := Aside0.mk (hp_); have n2_ := Aside0.mk (blk_grown (g := gb218) (o := .cells #[.bool a1_0, .int .i64 a1_1, .bool false, .bool false] 40 (0, 0)) (by (with_reducible repeat (first | refine blk_drewN ?_ _ | refine blk_drew ?_ | refine blk_alloc ?_ _)); exact BK218.out) hg (Kd.R_ne HO_12.out BK218.out (by decide))); have n3_ := Aside0.mk ((by rw [hw]; exact below_set (HB.out) GB50.out : Below w.heap.size w w54)); clear HO_10; clear HO_12; clear BK218; clear HB; have HO_10 := n0_; have HO_12 := n1_; have BK218 := n2_; have HB := n3_; clear n0_ n1_ n2_ n3_; clear hg hw hp_))
                  (try simp only [← hl12_3])
                  go_roundg k3
                  case measure => have := HJ2.out; have := HK2.out; have := HK3.out; omega
                  case rel => exact ⟨(y248), (wrap64 (x75_3 + 1)), (by first | rfl | (simp; done) | (simp [*]; done)), H', ⟨by have := HJ2.out; have := HK2.out; have := HK3.out; omega⟩, ⟨by (try simp only [hl12_3]); (with_reducible repeat (first | apply Kd.R_alloc | apply Kd.R_drewN | apply Kd.R_drew)); exact Kd.R_mono HO_10.out (fun _ hk => hk.2)⟩, ⟨by (try simp only [hl12_3]); (with_reducible repeat (first | apply Kd.R_alloc | apply Kd.R_drewN | apply Kd.R_drew)); exact HO_12.out⟩, ⟨by (try simp only [hl12_3]); (with_reducible repeat (first | refine blk_drewN ?_ _ | refine blk_drew ?_ | refine blk_alloc ?_ _)); exact BK218.out⟩, ⟨by repeat (first | (with_reducible first | exact HB.out | apply below_alloc | apply pw_below_drewN | apply below_drew1 | refine below_set ?_ GE218.out) | exact HB.out)⟩⟩
                 ·rw [if_neg c48] at H
                  exact absurd H (by simp)
                ·rw [if_neg c47] at H
                 exact absurd H (by simp)
               ·rw [if_neg c46] at H
                have c46b0 : decide (x75_3 < (t242.length : Int)) = false := decide_eq_false c46
                (try (have c46b0h := c46b0; simp only [hl12_3] at c46b0h))
                clear c46
                replace H := Option.bind_eq_some_iff.mp H
                obtain ⟨t249, A550, H⟩ := H
                replace H : ((impl_quarter.f k3 x59_2).bind fun t252 => (impl_LevelsBack.l3 k3 l0 x10_2 t249 x59_2 t252 (t252.length : Int) 0 a1_0 a1_1 false false)) = some (r1, r2) := H
                have A55 := Aside0.mk A550
                clear A550
                replace H := Option.bind_eq_some_iff.mp H
                obtain ⟨t252, A560, H⟩ := H
                replace H : (impl_LevelsBack.l3 k3 l0 x10_2 t249 x59_2 t252 (t252.length : Int) 0 a1_0 a1_1 false false) = some (r1, r2) := H
                have A56 := Aside0.mk A560
                clear A560
                have H' := Aside0.mk H
                clear H
                go_wp2_with (first | ((with_reducible refine gate_callee (f := 28) rfl ?_); refine goesL_ (some 90) rfl rfl Try.func28 (by kernel_rfl) rfl #[.slice Ao45 x12_3.length co45] rfl (by (try simp only [List.map_toArray, List.map_cons, List.map_nil]); first | done | rfl | (simp only [List.length_drop, List.length_take]; rfl)) ?_; (with_reducible refine (impl_FourBack.calls k3 _ _ x12_3 t249 _ ?side1 ?side2 A55.out).mono ?_); (case side1 => repeat (first | exact (Kd.R_reads' HO_12.out).2.2 | (with_reducible refine Kd.C_alloc ?_ _) | (with_reducible refine Kd.C_drewN ?_ _) | (with_reducible refine Kd.C_drew ?_))); (case side2 => exact (Kd.R_reads' HO_12.out).2.1); rintro e w57 ⟨v250, rfl, ho0, hb⟩; refine ⟨_, rfl, ?_⟩; have n0_ := Aside0.mk (Kd.R_elder' (by (with_reducible repeat (first | apply Kd.R_alloc | apply Kd.R_drewN | apply Kd.R_drew)); exact HO_10.out) (Kd.R_base ho0) hb); have n1_ := Aside0.mk (Kd.R_elder' (by (with_reducible repeat (first | apply Kd.R_alloc | apply Kd.R_drewN | apply Kd.R_drew)); exact HO_12.out) (Kd.R_base ho0) hb); have n2_ := Aside0.mk (Kd.R_lower (Kd.R_new' (Kd.R_new' ho0 (Kd.R_lt (by (with_reducible repeat (first | apply Kd.R_alloc | apply Kd.R_drewN | apply Kd.R_drew)); exact HO_10.out))) (Kd.R_lt (by (with_reducible repeat (first | apply Kd.R_alloc | apply Kd.R_drewN | apply Kd.R_drew)); exact HO_12.out))) (below_size (by repeat (first | (with_reducible first | exact HB.out | apply below_alloc | apply pw_below_drewN | apply below_drew1 | refine below_set ?_ GE218.out) | exact HB.out)))); have n3_ := Aside0.mk (blk_below (g := gb218) (o := .cells #[.bool a1_0, .int .i64 a1_1, .bool false, .bool false] 40 (0, 0)) (by (with_reducible repeat (first | refine blk_drewN ?_ _ | refine blk_drew ?_ | refine blk_alloc ?_ _)); exact BK218.out) hb); have n4_ := Aside0.mk (below_step (by repeat (first | (with_reducible first | exact HB.out | apply below_alloc | apply pw_below_drewN | apply below_drew1 | refine below_set ?_ GE218.out) | exact HB.out)) hb); clear HO_10; clear HO_12; clear BK218; clear HB; have HO_10 := n0_; have HO_12 := n1_; have HO251 := n2_; have BK218 := n3_; have HB := n4_; clear n0_ n1_ n2_ n3_ n4_; (try clear hb); (try clear hb2); (try clear hk); (try clear hi); (try clear ho0)) | ((with_reducible refine gate_callee (f := 102) rfl ?_); refine goesL_ (some 92) rfl rfl Try.func102 (by kernel_rfl) rfl #[.int .i64 x59_2] rfl (by (try simp only [List.map_toArray, List.map_cons, List.map_nil]); first | done | rfl | (simp only [List.length_drop, List.length_take]; rfl)) ?_; (with_reducible refine (impl_quarter.calls k3 x59_2 t252 _ A56.out).mono ?_); rintro e w58 ⟨v253, rfl, ho0, hb⟩; refine ⟨_, rfl, ?_⟩; have n0_ := Aside0.mk (Kd.R_elder' (by (with_reducible repeat (first | apply Kd.R_alloc | apply Kd.R_drewN | apply Kd.R_drew)); exact HO_10.out) (Kd.R_base ho0) hb); have n1_ := Aside0.mk (Kd.R_elder' (by (with_reducible repeat (first | apply Kd.R_alloc | apply Kd.R_drewN | apply Kd.R_drew)); exact HO_12.out) (Kd.R_base ho0) hb); have n2_ := Aside0.mk (Kd.R_elder' (by (with_reducible repeat (first | apply Kd.R_alloc | apply Kd.R_drewN | apply Kd.R_drew)); exact HO251.out) (Kd.R_base ho0) hb); have n3_ := Aside0.mk (Kd.R_lower (Kd.R_new' (Kd.R_new' (Kd.R_new' ho0 (Kd.R_lt (by (with_reducible repeat (first | apply Kd.R_alloc | apply Kd.R_drewN | apply Kd.R_drew)); exact HO_10.out))) (Kd.R_lt (by (with_reducible repeat (first | apply Kd.R_alloc | apply Kd.R_drewN | apply Kd.R_drew)); exact HO_12.out))) (Kd.R_lt (by (with_reducible repeat (first | apply Kd.R_alloc | apply Kd.R_drewN | apply Kd.R_drew)); exact HO251.out))) (below_size (by repeat (first | (with_reducible first | exact HB.out | apply below_alloc | apply pw_below_drewN | apply below_drew1 | refine below_set ?_ GE218.out) | exact HB.out)))); have n4_ := Aside0.mk (blk_below (g := gb218) (o := .cells #[.bool a1_0, .int .i64 a1_1, .bool false, .bool false] 40 (0, 0)) (by (with_reducible repeat (first | refine blk_drewN ?_ _ | refine blk_drew ?_ | refine blk_alloc ?_ _)); exact BK218.out) hb); have n5_ := Aside0.mk (below_step (by repeat (first | (with_reducible first | exact HB.out | apply below_alloc | apply pw_below_drewN | apply below_drew1 | refine below_set ?_ GE218.out) | exact HB.out)) hb); clear HO_10; clear HO_12; clear HO251; clear BK218; clear HB; have HO_10 := n0_; have HO_12 := n1_; have HO251 := n2_; have HO254 := n3_; have BK218 := n4_; have HB := n5_; clear n0_ n1_ n2_ n3_ n4_ n5_; (try clear hb); (try clear hb2); (try clear hk); (try clear hi); (try clear ho0); obtain ⟨Ao59, co59, eo59⟩ := Kd.R_slice HO254.out; subst eo59))
                go_loopg [94] k3 (fun kq v94 w' => ∃ (x10_4 : List Int) (x94_4 : Int), v94 = .int .i64 x94_4 ∧ Aside0 (impl_LevelsBack.l3 kq l0 x10_4 t249 x59_2 t252 (t252.length : Int) x94_4 a1_0 a1_1 false false = some (r1, r2)) ∧ Aside0 (kq ≤ k3) ∧ Aside0 (Kd.R (Kd.int .i64) 3 w' w.heap.size (fun k_ => some k_ ≠ (v250 : Value).ownBlock ∧ some k_ ≠ ((.slice Ao59 t252.length co59) : Value).ownBlock) v239 x10_4) ∧ Aside0 (Kd.R (Kd.int .i64) 3 w' w.heap.size (fun k_ => some k_ ≠ (v239 : Value).ownBlock ∧ some k_ ≠ ((.slice Ao59 t252.length co59) : Value).ownBlock) v250 t249) ∧ Aside0 (Kd.R (Kd.int .i64) 3 w' w.heap.size (fun k_ => some k_ ≠ (v239 : Value).ownBlock ∧ some k_ ≠ (v250 : Value).ownBlock) (.slice Ao59 t252.length co59) t252) ∧ Aside0 (w'.heap[gb218]? = some (.cells #[.bool a1_0, .int .i64 a1_1, .bool false, .bool false] 40 (0, 0))) ∧ Aside0 (Below w.heap.size w w'))
                case atStart => exact ⟨(x10_2), (0), (by first | rfl | (simp; done) | (simp [*]; done)), H', ⟨Nat.le_refl _⟩, ⟨by (try simp only [hl12_3]); (with_reducible repeat (first | apply Kd.R_alloc | apply Kd.R_drewN | apply Kd.R_drew)); exact Kd.R_mono HO_10.out (fun _ hk => ⟨hk.1.2, hk.2⟩)⟩, ⟨by (try simp only [hl12_3]); (with_reducible repeat (first | apply Kd.R_alloc | apply Kd.R_drewN | apply Kd.R_drew)); exact Kd.R_mono HO251.out (fun _ hk => ⟨hk.1.1.2, hk.2⟩)⟩, ⟨by (try simp only [hl12_3]); (with_reducible repeat (first | apply Kd.R_alloc | apply Kd.R_drewN | apply Kd.R_drew)); exact Kd.R_mono HO254.out (fun _ hk => ⟨hk.1.1.2, hk.2⟩)⟩, ⟨by (try simp only [hl12_3]); (with_reducible repeat (first | refine blk_drewN ?_ _ | refine blk_drew ?_ | refine blk_alloc ?_ _)); exact BK218.out⟩, ⟨by repeat (first | (with_reducible first | exact HB.out | apply below_alloc | apply pw_below_drewN | apply below_drew1 | refine below_set ?_ GE218.out) | exact HB.out)⟩⟩
                case round =>
                 clear H'
                 try clear c1
                 try clear c2
                 try clear p2
                 try clear q2
                 try clear hx2
                 try clear hf2
                 try clear c3
                 try clear c4
                 try clear c5
                 try clear p5
                 try clear q5
                 try clear hx5
                 try clear hf5
                 try clear c6
                 try clear p6
                 try clear c9
                 try clear c10
                 try clear c11
                 try clear c13
                 try clear c17
                 try clear c18
                 try clear c22
                 try clear c22b0
                 try clear c23
                 try clear c23b0
                 try clear p23
                 try clear q23
                 try clear hx23
                 try clear c24
                 try clear c24b0
                 try clear p24
                 try clear q24
                 try clear hx24
                 try clear p26
                 try clear q26
                 try clear hx26
                 try clear hf26
                 try clear c28
                 try clear c33
                 try clear c33b0
                 try clear c33b1
                 try clear c37
                 try clear c37b0
                 try clear c39
                 try clear c39b0
                 try clear c39b1
                 try clear c40
                 try clear c40b0
                 try clear c40b1
                 try clear c41
                 try clear c41b0
                 try clear c41b1
                 try clear c46
                 try clear c46b0
                 try clear c47
                 try clear c47b0
                 try clear c48
                 try clear c48b0
                 try clear p50
                 try clear q50
                 try clear hx50
                 try clear hf50
                 try clear c52
                 try clear hcz15_0
                 try clear hcz15_1
                 try clear hcz15_2
                 try clear hcz15_3
                 try clear hcz19_0
                 try clear hcz19_1
                 try clear hcz19_2
                 try clear hcz19_3
                 try clear hcz27_0
                 try clear hcz27_1
                 try clear hcz27_2
                 try clear hcz27_3
                 try clear hcz34_0
                 try clear hcz34_1
                 try clear hcz34_2
                 try clear hcz34_3
                 try clear hcz51_0
                 try clear hcz51_1
                 try clear hcz51_2
                 try clear hcz51_3
                 try clear hcz8_0
                 try clear hcz8_1
                 try clear hcz8_2
                 try clear hcz8_3
                 try clear hfz15_0
                 try clear hfz15_1
                 try clear hfz15_2
                 try clear hfz15_3
                 try clear hfz19_0
                 try clear hfz19_1
                 try clear hfz19_2
                 try clear hfz19_3
                 try clear hfz27_0
                 try clear hfz27_1
                 try clear hfz27_2
                 try clear hfz27_3
                 try clear hfz34_0
                 try clear hfz34_1
                 try clear hfz34_2
                 try clear hfz34_3
                 try clear hfz51_0
                 try clear hfz51_1
                 try clear hfz51_2
                 try clear hfz51_3
                 try clear hfz8_0
                 try clear hfz8_1
                 try clear hfz8_2
                 try clear hfz8_3
                 try clear hx232_0
                 try clear hx246_0
                 try clear hx26_0
                 try clear hx50_0
                 try clear p2
                 try clear p23
                 try clear p232
                 try clear p246
                 try clear p26
                 try clear p50
                 try clear p6
                 try clear q2
                 try clear q23
                 try clear q232
                 try clear q246
                 try clear q26
                 try clear q50
                 obtain ⟨x10_4, x94_4, rfl, HA, HK4, HO_10, HO_16, HO_92, BK218, HB⟩ := hrel
                 cases gk with
                 | zero => exact absurd HA.out (by simp [impl_LevelsBack.l3])
                 | succ k4 =>
                  have H := HA.out
                  clear HA
                  simp only [impl_LevelsBack.l3] at H
                  by_cases c60 : x94_4 < (t252.length : Int)
                  ·rw [if_pos c60] at H
                   have c60b0 : decide (x94_4 < (t252.length : Int)) = true := decide_eq_true c60
                   (try (have c60b0h := c60b0; simp only [hl12_3] at c60b0h))
                   clear c60
                   by_cases c61 : 0 ≤ x94_4
                   ·rw [if_pos c61] at H
                    have c61b0 : decide (0 ≤ x94_4) = true := decide_eq_true c61
                    (try (have c61b0h := c61b0; simp only [hl12_3] at c61b0h))
                    clear c61
                    by_cases c62 : x94_4 < (t252.length : Int)
                    ·rw [if_pos c62] at H
                     have c62b0 : decide (x94_4 < (t252.length : Int)) = true := decide_eq_true c62
                     (try (have c62b0h := c62b0; simp only [hl12_3] at c62b0h))
                     clear c62
                     by_cases c63 : x94_4 < (t249.length : Int)
                     ·rw [if_pos c63] at H
                      have c63b0 : decide (x94_4 < (t249.length : Int)) = true := decide_eq_true c63
                      (try (have c63b0h := c63b0; simp only [hl12_3] at c63b0h))
                      clear c63
                      by_cases c64 : 0 ≤ (rd t252 x94_4)
                      ·rw [if_pos c64] at H
                       have c64b0 : decide (0 ≤ (rd t252 x94_4)) = true := decide_eq_true c64
                       (try (have c64b0h := c64b0; simp only [hl12_3] at c64b0h))
                       clear c64
                       by_cases c65 : (rd t252 x94_4) < (x10_4.length : Int)
                       ·rw [if_pos c65] at H
                        have c65b0 : decide ((rd t252 x94_4) < (x10_4.length : Int)) = true := decide_eq_true c65
                        (try (have c65b0h := c65b0; simp only [hl12_3] at c65b0h))
                        clear c65
                        obtain ⟨y257, hy257⟩ : ∃ y_ : List Int, y_ = (x10_4.set ((rd t252 x94_4) : Int).toNat (rd t249 x94_4)) := ⟨_, rfl⟩
                        replace H : (impl_LevelsBack.l3 k4 l0 y257 t249 x59_2 t252 (t252.length : Int) (wrap64 (x94_4 + 1)) a1_0 a1_1 false false) = some (r1, r2) := by first | (rw [hy257]; with_reducible exact H) | (have H2_ := (Option.bind_some _ _).symm.trans H; rw [hy257]; with_reducible exact H2_) | (have H2_ := (Option.bind_some _ _).symm.trans H; with_reducible exact H2_) | with_reducible exact H | (rw [hy257]; exact H) | exact H
                        have Ny257 := Aside0.mk hy257
                        clear hy257
                        have H' := Aside0.mk H
                        clear H
                        have p255 : 0 ≤ (x94_4 : Int) := of_decide_eq_true (by first | (with_reducible assumption) | assumption)
                        have q255 : x94_4 < (t252.length : Int) := of_decide_eq_true (by first | (with_reducible assumption) | assumption)
                        obtain ⟨ad255, e255, hx255_0⟩ := Kd.at_int (Kd.R_reads' HO_92.out).2.2 x94_4 p255 q255
                        cases e255
                        replace p255 := eq_true p255
                        replace q255 := eq_true q255
                        obtain ⟨Ao67, co67, eo67⟩ := Kd.R_slice HO_16.out
                        subst eo67
                        have p256 : 0 ≤ (x94_4 : Int) := of_decide_eq_true (by first | (with_reducible assumption) | assumption)
                        have q256 : x94_4 < (t249.length : Int) := of_decide_eq_true (by first | (with_reducible assumption) | assumption)
                        obtain ⟨ad256, e256, hx256_0⟩ := Kd.at_int (Kd.R_reads' HO_16.out).2.2 x94_4 p256 q256
                        cases e256
                        replace p256 := eq_true p256
                        replace q256 := eq_true q256
                        have p66 : 0 ≤ ((rd t252 x94_4) : Int) := of_decide_eq_true (by first | (with_reducible assumption) | assumption)
                        have q66 : ((rd t252 x94_4) : Int) < ((x10_4.length : Int) : Int) := of_decide_eq_true (by first | (with_reducible assumption) | assumption)
                        obtain ⟨go66, co66, eo66, gb66, gl66, cl66, HG66⟩ := Kd.R_form HO_10.out (by omega)
                        (first | cases eo66 | (injection eo66 with ea_ en_ ec_; (first | subst ea_ | (injection ea_ with ea_; subst ea_)); subst ec_; clear en_))
                        have GB66 := Aside0.mk gb66
                        have GG66 := Aside0.mk HG66
                        clear gb66 gl66 HG66
                        obtain ⟨hx66_0, hf66_0⟩ := Kd.R_celln 0 HO_10.out ((rd t252 x94_4) : Int) p66 q66
                        replace p66 := eq_true p66
                        replace q66 := eq_true q66
                        have HP68 := Kd.R_putg HO_10.out ((rd t252 x94_4) : Int) (rd t249 x94_4)
                        go_wp2_with (first | ((with_reducible refine gate_store (t := 3) (p := 105) rfl ?_); refine store_event (t := 3) (p := 105) (v := ?vo_w69) (w1 := (wr.setCell ⟨go66, ((rd t252 x94_4) : Int).toNat, none⟩ (.int .i64 (rd t249 x94_4)))) ?hg ?ho ?hn ?hr ?_; (case ho => rfl); (case hg => rfl); (case hn => rfl); (case hr => first | (go_simp; done) | (go_simp; rfl)); intro w69 hw; have hg : wr.grownBy w69 (some go66) := (by rw [hw]; exact HP68.2); have hp_ : Kd.R (Kd.int .i64) 3 w69 w.heap.size (fun k_ => some k_ ≠ (.slice (some ad256) t249.length co67 : Value).ownBlock ∧ some k_ ≠ (.slice (some ad255) t252.length co59 : Value).ownBlock) (.slice (some ⟨go66, 0, none⟩) x10_4.length co66) y257 := (by rw [hw, Ny257.out]; exact HP68.1); clear HP68; have n0_ := Aside0.mk (hp_); have n1_ := Aside0.mk (Kd.R_after (v := (.slice (some ⟨go66, 0, none⟩) x10_4.length co66)) (v1 := (.slice (some ⟨go66, 0, none⟩) x10_4.length co66)) (ok := (fun k_ => some k_ ≠ (.slice (some ad255) t252.length co59 : Value).ownBlock)) (by (with_reducible repeat (first | apply Kd.R_alloc | apply Kd.R_drewN | apply Kd.R_drew)); exact Kd.R_mono HO_16.out (fun _ hk => ⟨hk.2, hk.1⟩)) hg (.inl rfl)); have n2_ := Aside0.mk (Kd.R_after (v := (.slice (some ⟨go66, 0, none⟩) x10_4.length co66)) (v1 := (.slice (some ⟨go66, 0, none⟩) x10_4.length co66)) (ok := (fun k_ => some k_ ≠ (.slice (some ad256) t249.length co67 : Value).ownBlock)) (by (with_reducible repeat (first | apply Kd.R_alloc | apply Kd.R_drewN | apply Kd.R_drew)); exact Kd.R_mono HO_92.out (fun _ hk => ⟨hk.2, hk.1⟩)) hg (.inl rfl)); have n3_ := Aside0.mk (blk_grown (g := gb218) (o := .cells #[.bool a1_0, .int .i64 a1_1, .bool false, .bool false] 40 (0, 0)) (by (with_reducible repeat (first | refine blk_drewN ?_ _ | refine blk_drew ?_ | refine blk_alloc ?_ _)); exact BK218.out) hg (Kd.R_ne HO_10.out BK218.out (by decide))); have n4_ := Aside0.mk ((by rw [hw]; exact below_set (HB.out) GB66.out : Below w.heap.size w w69)); clear HO_10; clear HO_16; clear HO_92; clear BK218; clear HB; have HO_10 := n0_; have HO_16 := n1_; have HO_92 := n2_; have BK218 := n3_; have HB := n4_; clear n0_ n1_ n2_ n3_ n4_; clear hg hw hp_))
                        go_roundg k4
                        case measure => have := HJ2.out; have := HK2.out; have := HK3.out; have := HK4.out; omega
                        case rel => exact ⟨(y257), (wrap64 (x94_4 + 1)), (by first | rfl | (simp; done) | (simp [*]; done)), H', ⟨by have := HJ2.out; have := HK2.out; have := HK3.out; have := HK4.out; omega⟩, ⟨by (try simp only [hl12_3]); (with_reducible repeat (first | apply Kd.R_alloc | apply Kd.R_drewN | apply Kd.R_drew)); exact HO_10.out⟩, ⟨by (try simp only [hl12_3]); (with_reducible repeat (first | apply Kd.R_alloc | apply Kd.R_drewN | apply Kd.R_drew)); exact Kd.R_mono HO_16.out (fun _ hk => ⟨hk.2, hk.1⟩)⟩, ⟨by (try simp only [hl12_3]); (with_reducible repeat (first | apply Kd.R_alloc | apply Kd.R_drewN | apply Kd.R_drew)); exact Kd.R_mono HO_92.out (fun _ hk => ⟨hk.2, hk.1⟩)⟩, ⟨by (try simp only [hl12_3]); (with_reducible repeat (first | refine blk_drewN ?_ _ | refine blk_drew ?_ | refine blk_alloc ?_ _)); exact BK218.out⟩, ⟨by repeat (first | (with_reducible first | exact HB.out | apply below_alloc | apply pw_below_drewN | apply below_drew1 | refine below_set ?_ GE218.out) | exact HB.out)⟩⟩
                       ·rw [if_neg c65] at H
                        exact absurd H (by simp)
                      ·rw [if_neg c64] at H
                       exact absurd H (by simp)
                     ·rw [if_neg c63] at H
                      exact absurd H (by simp)
                    ·rw [if_neg c62] at H
                     exact absurd H (by simp)
                   ·rw [if_neg c61] at H
                    exact absurd H (by simp)
                  ·rw [if_neg c60] at H
                   have c60b0 : decide (x94_4 < (t252.length : Int)) = false := decide_eq_false c60
                   (try (have c60b0h := c60b0; simp only [hl12_3] at c60b0h))
                   clear c60
                   have H' := Aside0.mk H
                   clear H
                   go_wp2
                   (try simp only [← hl12_3])
                   go_roundg k4
                   case measure => have := HJ2.out; have := HK2.out; have := HK3.out; have := HK4.out; omega
                   case rel => exact ⟨(x10_4), (wrap64 (x59_2 + 1)), (by first | rfl | (simp; done) | (simp [*]; done)), H', ⟨by have := HJ2.out; have := HK2.out; have := HK3.out; have := HK4.out; omega⟩, ⟨by (try simp only [hl12_3]); (with_reducible repeat (first | apply Kd.R_alloc | apply Kd.R_drewN | apply Kd.R_drew)); exact Kd.R_mono HO_10.out (fun _ hk => trivial)⟩, ⟨by (try simp only [hl12_3]); (with_reducible repeat (first | refine blk_drewN ?_ _ | refine blk_drew ?_ | refine blk_alloc ?_ _)); exact BK218.out⟩, ⟨by repeat (first | (with_reducible first | exact HB.out | apply below_alloc | apply pw_below_drewN | apply below_drew1 | refine below_set ?_ GE218.out) | exact HB.out)⟩⟩
            ·rw [if_neg c41] at H
             exact absurd H (by simp)
           ·rw [if_neg c40] at H
            exact absurd H (by simp)
          ·rw [if_neg c39] at H
           exact absurd H (by simp)
         ·rw [if_neg c37] at H
          have c37b0 : decide (x59_2 < 4) = false := decide_eq_false c37
          clear c37
          simp only [Option.some.injEq, Prod.mk.injEq] at H
          obtain ⟨rfl, rfl⟩ := H
          go_wp2
          go_ret2
          exact ⟨_, by first | rfl | (simp [errW_none, errW_some] <;> rfl) | (simp [*, errW_none, errW_some] <;> rfl), by (with_reducible repeat (first | apply Kd.R_alloc | apply Kd.R_drewN | apply Kd.R_drew)); exact HO_10.out, by repeat (first | (with_reducible first | exact HB.out | apply below_alloc | apply pw_below_drewN | apply below_drew1 | refine below_set ?_ GE218.out) | exact HB.out)⟩
      ·rw [if_neg c33] at H
       exact absurd H (by simp)

end Go.Proofs.Ytlmlkoalicjlhaa.QFnLevelRows
