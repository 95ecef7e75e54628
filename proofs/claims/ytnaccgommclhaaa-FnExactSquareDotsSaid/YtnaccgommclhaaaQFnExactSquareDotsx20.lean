/- What the law reaches, as plain functions, each with the proof that its call comes to its answer: written by a program for this claim. -/
import Derived.Test.YtnaccgommclhaaaQFnExactSquareDotsx0
import Derived.Test.YtnaccgommclhaaaUFnExactSquareDotsV5
namespace Go.Proofs.Ytnaccgommclhaaa.QFnExactSquareDots
open Go.RowKit Go.Proofs.YtnaccgommclhaaaW.PrintWords Go.Proofs.YtnaccgommclhaaaW.PrintLast Go.Proofs.YtnaccgommclhaaaW.PrintMore Go.Proofs.YtnaccgommclhaaaV
attribute [local go_sem] max2_int min2_int max_two min_two max_three min_three max_four min_four   -- for this text's walks alone
set_option linter.unusedVariables false
set_option linter.unusedSimpArgs false
set_option maxHeartbeats 8000000
set_option maxRecDepth 100000

mutual
def impl_quarter.l0 : Nat → Int → List Int → Int → Option (List Int)
 | 0, _, _, _ => none
 | k + 1, x0, x3, x7 => if x7 < 4 then (impl_quarter.l1 k x0 x3 x7 x7 0) else (some x3)
def impl_quarter.l1 : Nat → Int → List Int → Int → Int → Int → Option (List Int)
 | 0, _, _, _, _, _ => none
 | k + 1, x0, x3, x4, x7, x10 => if x10 < 4 then (if x3.length < 17592186044416 then (impl_quarter.l1 k x0 (x3 ++ [wrap64 ((wrap64 ((wrap64 ((wrap64 (x4 + (wrap64 ((wrap64 (Int.tdiv x0 2)) * 4)))) * 8)) + x10)) + (wrap64 ((Int.tmod x0 2) * 4)))]) x4 x7 (wrap64 (x10 + 1))) else (none)) else (impl_quarter.l0 k x0 x3 (wrap64 (x7 + 1)))
end
def impl_quarter.f (k : Nat) (a0 : Int) : Option (List Int) := impl_quarter.l0 k a0 (([] : List Int)) 0
theorem impl_quarter.mono_l : ∀ k, (∀ y0 y1 y2, LeO (impl_quarter.l0 k y0 y1 y2) (impl_quarter.l0 (k + 1) y0 y1 y2)) ∧ (∀ y0 y1 y2 y3 y4, LeO (impl_quarter.l1 k y0 y1 y2 y3 y4) (impl_quarter.l1 (k + 1) y0 y1 y2 y3 y4))
 | 0 => ⟨fun _ _ _ r h => by simp [impl_quarter.l0] at h, fun _ _ _ _ _ r h => by simp [impl_quarter.l1] at h⟩
 | k + 1 => by
  obtain ⟨ih0, ih1⟩ := impl_quarter.mono_l k
  refine ⟨?_, ?_⟩
  ·intro y0 y1 y2
   unfold impl_quarter.l0
   repeat' first
   | (with_reducible exact ih0 _ _ _)
   | (with_reducible exact ih1 _ _ _ _ _)
   | (with_reducible exact LeO.refl _)
   | (with_reducible exact LeO.none _)
   | (with_reducible refine LeO.ite ?_ ?_)
   | (with_reducible refine LeO.bind ?_ (fun _ => ?_))
   | exact ih0 _ _ _
   | exact ih1 _ _ _ _ _
   | exact LeO.none _
   | refine LeO.ite ?_ ?_
   | refine LeO.bind ?_ (fun _ => ?_)
  ·intro y0 y1 y2 y3 y4
   unfold impl_quarter.l1
   repeat' first
   | (with_reducible exact ih0 _ _ _)
   | (with_reducible exact ih1 _ _ _ _ _)
   | (with_reducible exact LeO.refl _)
   | (with_reducible exact LeO.none _)
   | (with_reducible refine LeO.ite ?_ ?_)
   | (with_reducible refine LeO.bind ?_ (fun _ => ?_))
   | exact ih0 _ _ _
   | exact ih1 _ _ _ _ _
   | exact LeO.none _
   | refine LeO.ite ?_ ?_
   | refine LeO.bind ?_ (fun _ => ?_)
theorem impl_quarter.mono : ∀ a0 k, LeO (impl_quarter.f k a0) (impl_quarter.f (k + 1) a0) := by
 intro a0 k
 obtain ⟨ih0, ih1⟩ := impl_quarter.mono_l k
 unfold impl_quarter.f
 repeat' first
   | (with_reducible exact ih0 _ _ _)
   | (with_reducible exact ih1 _ _ _ _ _)
   | (with_reducible exact LeO.refl _)
   | (with_reducible exact LeO.none _)
   | (with_reducible refine LeO.ite ?_ ?_)
   | (with_reducible refine LeO.bind ?_ (fun _ => ?_))
   | exact ih0 _ _ _
   | exact ih1 _ _ _ _ _
   | exact LeO.none _
   | refine LeO.ite ?_ ?_
   | refine LeO.bind ?_ (fun _ => ?_)
theorem impl_quarter.calls (k : Nat) (a0 : Int) (r : List Int) (w : World) (h : impl_quarter.f k a0 = some r) :
  Calls Try.prog 118 #[.int .i64 a0] w fun e w' => ∃ v0_ : Value, e = .returned (v0_) ∧ Kd.R (Kd.int .i64) 3 w' w.heap.size (fun _ => True) v0_ r ∧ Below w.heap.size w w' := by
 have HB := Aside0.mk (Below.refl w.heap.size w)
 have H := h
 clear h
 unfold impl_quarter.f at H
 obtain ⟨y488, hy488⟩ : ∃ y_ : List Int, y_ = (([] : List Int)) := ⟨_, rfl⟩
 replace H : (impl_quarter.l0 k a0 y488 0) = some r := by subst hy488; exact H
 have Ny488 := Aside0.mk hy488
 clear hy488
 have H' := Aside0.mk H
 clear H
 go_enter Try.func118, Try.ntmps118
 go_wp2_with (first | ((with_reducible refine gate_dst (N := 6) rfl ?_); refine Kd.R_lit (Kd.int .i64) _ 3 ?hg (N := 6) ?hd (xs := ([] : List Int)) (inner := []) (ok := fun _ => True) (okp := fun _ => True) ?hr ?hp (fun _ hk => hk) trivial (Below.refl _ _) (Nat.le_refl _) (by simp) ?_; (case hd => rfl); (case hg => rfl); (case hr => first | (go_simp; done) | (go_simp; rfl)); (case hp => exact (Reps.none _ _)); intro v489 w2 ho3 hb hg_ hnew_; clear hg_ hnew_; (first | rw [← Ny488.out] at ho3 | (simp only [Int.reduceToNat] at ho3; rw [← Ny488.out] at ho3)); have HO490 := Aside0.mk (Kd.R_lower ho3 (below_size (bo HB))); replace HB := bs HB hb; clear hb ho3))
 go_loopg [3, 7] k (fun kq v3 v7 w' => ∃ (x3_1 : List Int) (x7_1 : Int), v7 = .int .i64 x7_1 ∧ Aside0 (impl_quarter.l0 kq a0 x3_1 x7_1 = some r) ∧ Aside0 (kq ≤ k) ∧ Aside0 (Kd.R (Kd.int .i64) 3 w' w.heap.size (fun _ => True) v3 x3_1) ∧ Aside0 (Below w.heap.size w w'))
 case atStart => exact ⟨(y488), (0), rv, H', ⟨Nat.le_refl _⟩, (ra HO490.out), bh HB⟩
 case round =>
  clear H'
  obtain ⟨x3_1, x7_1, rfl, HA, HK1, HO_3, HB⟩ := hrel
  cases gk with
  | zero => exact absurd HA.out (by simp [impl_quarter.l0])
  | succ k1 =>
   have H := HA.out
   clear HA
   simp only [impl_quarter.l0] at H
   by_cases c4 : x7_1 < 4
   ·rw [if_pos c4] at H
    have c4b0 := decide_eq_true c4
    clear c4
    have H' := Aside0.mk H
    clear H
    go_wp2
    go_loopg [3, 10] k1 (fun kq v3 v10 w' => ∃ (x3_2 : List Int) (x10_2 : Int), v10 = .int .i64 x10_2 ∧ Aside0 (impl_quarter.l1 kq a0 x3_2 x7_1 x7_1 x10_2 = some r) ∧ Aside0 (kq ≤ k1) ∧ Aside0 (Kd.R (Kd.int .i64) 3 w' w.heap.size (fun _ => True) v3 x3_2) ∧ Aside0 (Below w.heap.size w w'))
    case atStart => exact ⟨(x3_1), (0), rv, H', ⟨Nat.le_refl _⟩, (ra HO_3.out), bh HB⟩
    case round =>
     clear H'
     obtain ⟨x3_2, x10_2, rfl, HA, HK2, HO_3, HB⟩ := hrel
     cases gk with
     | zero => exact absurd HA.out (by simp [impl_quarter.l1])
     | succ k2 =>
      have H := HA.out
      clear HA
      simp only [impl_quarter.l1] at H
      by_cases c5 : x10_2 < 4
      ·rw [if_pos c5] at H
       have c5b0 := decide_eq_true c5
       clear c5
       by_cases c6 : x3_2.length < 17592186044416
       ·rw [if_pos c6] at H
        have LMc6 := Aside0.mk c6
        clear c6
        obtain ⟨y491, hy491⟩ : ∃ y_ : List Int, y_ = (x3_2 ++ [wrap64 ((wrap64 ((wrap64 ((wrap64 (x7_1 + (wrap64 ((wrap64 (Int.tdiv a0 2)) * 4)))) * 8)) + x10_2)) + (wrap64 ((Int.tmod a0 2) * 4)))]) := ⟨_, rfl⟩
        replace H : (impl_quarter.l1 k2 a0 y491 x7_1 x7_1 (wrap64 (x10_2 + 1))) = some r := by subst hy491; exact H
        have Ny491 := Aside0.mk hy491
        clear hy491
        have H' := Aside0.mk H
        clear H
        go_wp2_with (first | ((with_reducible refine gate_builtin (b := .append) (xs := #[.tmp 13, .tmp 26]) rfl ?_); at_builtin; refine Kd.R_append (Kd.int .i64) (w0 := w) w.heap.size rfl (.tmp 13) (.tmp 26) 35 3 (.int .i64 0) 8 rfl Try.underlying35 info3 rfl (by decide) (by omega) u3 x3_2 (wrap64 ((wrap64 ((wrap64 ((wrap64 (x7_1 + (wrap64 ((wrap64 (Int.tdiv a0 2)) * 4)))) * 8)) + x10_2)) + (wrap64 ((Int.tmod a0 2) * 4)))) [.int .i64 (wrap64 ((wrap64 ((wrap64 ((wrap64 (x7_1 + (wrap64 ((wrap64 (Int.tdiv a0 2)) * 4)))) * 8)) + x10_2)) + (wrap64 ((Int.tmod a0 2) * 4))))] (fun _ => True) (fun _ => False) rfl rfl ?aP (fun _ hk => hk.elim) ?aF ?aO ?aB ?aS ?aL ?_; (case aP => exact rfl); (case aB => exact (bo HB)); (case aF => exact (fun _ _ => trivial)); (case aO => exact (ro HO_3.out)); (case aS => exact (below_size (bo HB))); (case aL => have := LMc6.out; omega); intro v492 w7 ho hb hg hat; rw [← Ny491.out] at ho; have HO493 := Aside0.mk (ho); replace HB := Aside0.mk (hb); clear HO_3; clear ho hb hg hat))
        go_roundg k2
        case measure => have := HK1.out; have := HK2.out; omega
        case rel => exact ⟨(y491), (wrap64 (x10_2 + 1)), rv, H', ⟨by have := HK1.out; have := HK2.out; omega⟩, (ra HO493.out), bh HB⟩
       ·rw [if_neg c6] at H
        exact absurd H (by simp)
      ·rw [if_neg c5] at H
       have c5b0 := decide_eq_false c5
       clear c5
       have H' := Aside0.mk H
       clear H
       go_wp2
       go_roundg k2
       case measure => have := HK1.out; have := HK2.out; omega
       case rel => exact ⟨(x3_2), (wrap64 (x7_1 + 1)), rv, H', ⟨by have := HK1.out; have := HK2.out; omega⟩, (ra HO_3.out), bh HB⟩
   ·rw [if_neg c4] at H
    have c4b0 := decide_eq_false c4
    clear c4
    obtain rfl := Option.some.inj H
    go_wp2
    go_ret
    exact ⟨_, re, ro HO_3.out, bo HB⟩

end Go.Proofs.Ytnaccgommclhaaa.QFnExactSquareDots
