/- What the law reaches, as plain functions, each with the proof that its call comes to its answer: written by a program for this claim. -/
import Derived.Test.YtnaccgommclhaaaQFnExactSquareDotsx0
import Derived.Test.YtnaccgommclhaaaQFnExactSquareDotsx14
import Derived.Test.YtnaccgommclhaaaQFnExactSquareDotsx24
import Derived.Test.YtnaccgommclhaaaUFnExactSquareDotsV5
namespace Go.Proofs.Ytnaccgommclhaaa.QFnExactSquareDots
open Go.RowKit Go.Proofs.YtnaccgommclhaaaW.PrintWords Go.Proofs.YtnaccgommclhaaaW.PrintLast Go.Proofs.YtnaccgommclhaaaW.PrintMore Go.Proofs.YtnaccgommclhaaaV
attribute [local go_sem] max2_int min2_int max_two min_two max_three min_three max_four min_four   -- for this text's walks alone
set_option linter.unusedVariables false
set_option linter.unusedSimpArgs false
set_option maxHeartbeats 8000000
set_option maxRecDepth 100000

mutual
def impl_GuessOf.j0 : Nat → Int → List Int → Bool → List Int → List Int → Int → Option (List Int)
 | 0, _, _, _, _, _, _ => none
 | k + 1, x0, x5, x21, x575000, x575001, x575002 => if x21 = true then (some x5) else (if (wrap64 ((x575000.length : Int) + (x575001.length : Int))) > 0 then ((impl_sumOf.f k x575000).bind fun t580 => ((impl_sumOf.f k x575001).bind fun t581 => (if (wrap64 ((x575000.length : Int) + (x575001.length : Int))) = 0 then (none) else (impl_GuessOf.j1 k x0 x5 (wrap64 (Int.tdiv (wrap64 ((wrap64 (t580 + t581)) + (wrap64 (Int.tdiv (wrap64 ((x575000.length : Int) + (x575001.length : Int))) 2)))) (wrap64 ((x575000.length : Int) + (x575001.length : Int))))) x575000 x575001 x575002)))) else (impl_GuessOf.j1 k x0 x5 128 x575000 x575001 x575002))
def impl_GuessOf.j1 : Nat → Int → List Int → Int → List Int → List Int → Int → Option (List Int)
 | 0, _, _, _, _, _, _ => none
 | k + 1, x0, x5, x6, x575000, x575001, x575002 => (impl_orGrey.f x575000).bind fun t582 => ((impl_orGrey.f x575001).bind fun t585 => (if x575002 < 0 then (impl_GuessOf.j2 k x0 x5 x6 t582 t585 128) else (impl_GuessOf.j2 k x0 x5 x6 t582 t585 x575002)))
def impl_GuessOf.j2 : Nat → Int → List Int → Int → List Int → List Int → Int → Option (List Int)
 | 0, _, _, _, _, _, _ => none
 | k + 1, x0, x5, x6, x8, x9, x10 => impl_GuessOf.l0 k x0 x5 x6 x8 x9 x10 0
def impl_GuessOf.l0 : Nat → Int → List Int → Int → List Int → List Int → Int → Int → Option (List Int)
 | 0, _, _, _, _, _, _, _ => none
 | k + 1, x0, x5, x6, x8, x9, x10, x54 => if x54 < 8 then (impl_GuessOf.l1 k x0 x5 x6 x8 x9 x10 x54 x54 0) else (some x5)
def impl_GuessOf.l1 : Nat → Int → List Int → Int → List Int → List Int → Int → Int → Int → Int → Option (List Int)
 | 0, _, _, _, _, _, _, _, _, _ => none
 | k + 1, x0, x5, x6, x8, x9, x10, x11, x54, x57 => if x57 < 8 then (if x0 = 0 then (if x5.length < 17592186044416 then (impl_GuessOf.l1 k x0 (x5 ++ [x6]) x6 x8 x9 x10 x11 x54 (wrap64 (x57 + 1))) else (none)) else (if x0 = 1 then (if 0 ≤ x57 then (if x57 < (x8.length : Int) then (if x5.length < 17592186044416 then (impl_GuessOf.l1 k x0 (x5 ++ [rd x8 x57]) x6 x8 x9 x10 x11 x54 (wrap64 (x57 + 1))) else (none)) else (none)) else (none)) else (if x0 = 2 then (if 0 ≤ x11 then (if x11 < (x9.length : Int) then (if x5.length < 17592186044416 then (impl_GuessOf.l1 k x0 (x5 ++ [rd x9 x11]) x6 x8 x9 x10 x11 x54 (wrap64 (x57 + 1))) else (none)) else (none)) else (none)) else (if 0 ≤ x11 then (if x11 < (x9.length : Int) then (if 0 ≤ x57 then (if x57 < (x8.length : Int) then ((impl_Brought.f (wrap64 ((wrap64 ((rd x9 x11) + (rd x8 x57))) - x10)) 0 255).bind fun t601 => (if x5.length < 17592186044416 then (impl_GuessOf.l1 k x0 (x5 ++ [t601]) x6 x8 x9 x10 x11 x54 (wrap64 (x57 + 1))) else (none))) else (none)) else (none)) else (none)) else (none))))) else (impl_GuessOf.l0 k x0 x5 x6 x8 x9 x10 (wrap64 (x54 + 1)))
end
def impl_GuessOf.f (k : Nat) (a0 : Int) (l1_0 : List Int) (l1_1 : List Int) (a1_2 : Int) : Option (List Int) := (some (([] : List Int) : List Int)).bind fun y575 => ((impl_EdgesOk.f k l1_0 l1_1 a1_2).bind fun t578 => (if t578 = true then ((impl_within.f a0 0 3).bind fun t579 => (impl_GuessOf.j0 k a0 y575 (!t579) l1_0 l1_1 a1_2)) else (impl_GuessOf.j0 k a0 y575 true l1_0 l1_1 a1_2)))
def impl_GuessOf.T7 : Bool × List (List Nat × List Nat) := (true, [([], []), ([0], [0]), ([1], [1]), ([], []), ([3], [3]), ([4, 2], [4]), ([2, 5], [2, 5]), ([], []), ([7], [7]), ([6, 8], [6, 8]), ([], []), ([9, 10], [9, 10]), ([11, 5, 0, 1, 2, 3, 4, 5, 6, 7, 8, 9, 10, 11], [11])])
def impl_GuessOf.B7 : List Nat := [0, 1, 3, 0, 8, 31, 63, 0, 128, 511, 0, 2047, 4095]
theorem impl_GuessOf.tab7 : rtab .any (opsOf Try.f80 7) = impl_GuessOf.T7 := by kernel_rfl
theorem impl_GuessOf.bits7 : waitsOk impl_GuessOf.T7.2 impl_GuessOf.B7 = true := by kernel_rfl
def impl_GuessOf.T8 : Bool × List (List Nat × List Nat) := (true, [([], []), ([0], [0]), ([1], [1]), ([], []), ([3], [3]), ([4, 2], [4]), ([], []), ([6], [6]), ([2, 5, 0, 1, 2], [2]), ([5, 8, 0, 1, 2, 3, 4, 5, 8], [5]), ([7, 9, 0, 1, 2, 3, 4, 5, 6, 7, 8, 9], [7])])
def impl_GuessOf.B8 : List Nat := [0, 1, 3, 0, 8, 31, 0, 64, 63, 319, 1023]
theorem impl_GuessOf.tab8 : rtab .any (opsOf Try.f80 8) = impl_GuessOf.T8 := by kernel_rfl
theorem impl_GuessOf.bits8 : waitsOk impl_GuessOf.T8.2 impl_GuessOf.B8 = true := by kernel_rfl
def impl_GuessOf.T18 : Bool × List (List Nat × List Nat) := (true, [([], []), ([], []), ([], []), ([1, 2], [1, 2]), ([3], [3]), ([], []), ([], []), ([5, 6], [5, 6]), ([7], [7]), ([4, 8], [4, 8]), ([], []), ([9, 10], [9, 10]), ([11], [11]), ([12], [12]), ([0, 13, 12], [0, 13]), ([14, 14, 0, 1, 2, 3, 4, 5, 6, 7, 8, 9, 10, 11, 12, 13, 14], [0, 14])])
def impl_GuessOf.B18 : List Nat := [0, 0, 0, 6, 14, 0, 0, 96, 224, 510, 0, 2046, 4094, 8190, 16383, 32767]
theorem impl_GuessOf.tab18 : rtab .any (opsOf Try.f80 18) = impl_GuessOf.T18 := by kernel_rfl
theorem impl_GuessOf.bits18 : waitsOk impl_GuessOf.T18.2 impl_GuessOf.B18 = true := by kernel_rfl
theorem impl_GuessOf.calls (k : Nat) (a0 : Int) (P1_0_ : Nat → Prop) (u9000_ : Value) (l1_0 : List Int) (P1_1_ : Nat → Prop) (u9001_ : Value) (l1_1 : List Int) (a1_2 : Int) (r : List Int) (w0 w : World) (hB : Below w0.heap.size w0 w) (ho1_0 : Kd.R (Kd.int .i64) 3 w w0.heap.size P1_0_ u9000_ l1_0) (hp1_0_1_1 : ∀ k_, P1_0_ k_ → ¬ P1_1_ k_) (ho1_1 : Kd.R (Kd.int .i64) 3 w w0.heap.size P1_1_ u9001_ l1_1) (hp1_1_1_0 : ∀ k_, P1_1_ k_ → ¬ P1_0_ k_) (h : impl_GuessOf.f k a0 l1_0 l1_1 a1_2 = some r) :
  Calls Try.prog 80 #[.int .i64 a0, .agg #[u9000_, u9001_, .int .i64 a1_2]] w fun e w' => ∃ v0_ : Value, e = .returned (v0_) ∧ Kd.R (Kd.int .i64) 3 w' w0.heap.size (fun k_ => ((P1_0_ k_ ∨ P1_1_ k_) ∨ w.heap.size ≤ k_)) v0_ r ∧ Below w0.heap.size w0 w' ∧ Kept w w' (fun k_ => P1_0_ k_ ∨ P1_1_ k_) := by
 have hu101 := Try.underlying101
 have HO1_0 := Aside0.mk (show Kd.R (Kd.int .i64) 3 w w0.heap.size (fun k_ => ((P1_0_ k_ ∨ P1_1_ k_) ∨ w.heap.size ≤ k_) ∧ some k_ ≠ (u9001_ : Value).ownBlock) u9000_ l1_0 from Kd.R_mono ho1_0 (fun k_ hk => ⟨(.inl (.inl hk)), fun e_ => hp1_0_1_1 k_ hk (ho1_1.1 k_ e_.symm)⟩))
 have HO1_1 := Aside0.mk (show Kd.R (Kd.int .i64) 3 w w0.heap.size (fun k_ => ((P1_0_ k_ ∨ P1_1_ k_) ∨ w.heap.size ≤ k_) ∧ some k_ ≠ (u9000_ : Value).ownBlock) u9001_ l1_1 from Kd.R_mono ho1_1 (fun k_ hk => ⟨(.inl (.inr hk)), fun e_ => hp1_1_1_0 k_ hk (ho1_0.1 k_ e_.symm)⟩))
 have HK := Aside0.mk (Kept.refl w (fun k_ => P1_0_ k_ ∨ P1_1_ k_))
 have HW0 := Aside0.mk hB.size
 have HB := Aside0.mk hB
 clear hB
 have H := h
 clear h
 unfold impl_GuessOf.f at H
 replace H := yl H
 obtain ⟨y575, Ny575, H⟩ := H
 have HC3 := Aside0.mk H
 clear H
 obtain ⟨Ao4, co4, eo4⟩ := Kd.R_slice HO1_0.out
 subst eo4
 obtain ⟨Ao5, co5, eo5⟩ := Kd.R_slice HO1_1.out
 subst eo5
 go_enter Try.func80, Try.ntmps80
 go_upto_region 2 with (first | ((with_reducible refine gate_dst (N := 3) rfl ?_); refine bx 3 #[.slice Ao4 l1_0.length co4, .slice Ao5 l1_1.length co5, .int .i64 a1_2] 101 ?_; intro gb574 hg w6 BK574 hb; have GW574 := Aside0.mk ((by rw [hg]; exact (by first | exact HK.out.1 | exact (show Kept w _ (fun k_ => P1_0_ k_ ∨ P1_1_ k_) from by repeat (first | (with_reducible first | exact HK.out | apply Kept.alloc | apply Kept.drewN | apply Kept.drew) | exact HK.out)).1) : w.heap.size ≤ gb574)); have GE574 := Aside0.mk ((by rw [hg]; exact (below_size (bo HB)) : w0.heap.size ≤ gb574)); replace HO1_0 := Aside0.mk (Kd.R_below (ro HO1_0.out) hb); replace HO1_1 := Aside0.mk (Kd.R_below (ro HO1_1.out) hb); replace HK := Aside0.mk (Kept.below (S := (fun k_ => P1_0_ k_ ∨ P1_1_ k_)) (by repeat (first | (with_reducible first | exact HK.out | apply Kept.alloc | apply Kept.drewN | apply Kept.drew) | exact HK.out)) hb); replace HB := bs HB hb; clear hb hg) | ((with_reducible refine gate_dst (N := 13) rfl ?_); refine Kd.R_lit (Kd.int .i64) _ 3 ?hg (N := 13) ?hd (xs := ([] : List Int)) (inner := []) (ok := fun _ => True) (okp := fun _ => True) ?hr ?hp (fun _ hk => hk) trivial (Below.refl _ _) (Nat.le_refl _) (by simp) ?_; (case hd => rfl); (case hg => rfl); (case hr => first | (go_simp; done) | (go_simp; rfl)); (case hp => exact (Reps.none _ _)); intro v576 w7 ho8 hb hg_ hnew_; clear hg_ hnew_; (first | rw [← Ny575.out] at ho8 | (simp only [Int.reduceToNat] at ho8; rw [← Ny575.out] at ho8)); have HO577 := Aside0.mk (Kd.R_lower (Kd.R_new' (Kd.R_new' (Kd.R_newM (M := fun k_ => ((P1_0_ k_ ∨ P1_1_ k_) ∨ w.heap.size ≤ k_)) ho8 (by first | exact HK.out.1 | exact (show Kept w _ (fun k_ => P1_0_ k_ ∨ P1_1_ k_) from by repeat (first | (with_reducible first | exact HK.out | apply Kept.alloc | apply Kept.drewN | apply Kept.drew | refine Kept.setCell ?_ (.inr GW574.out) _) | exact HK.out)).1) (fun k_ h_ => .inr h_)) (Kd.R_lt (ro HO1_0.out))) (Kd.R_lt (ro HO1_1.out))) (below_size (bo HB))); replace HO1_0 := Aside0.mk (Kd.R_elder' (ro HO1_0.out) (Kd.R_base ho8) hb); replace HO1_1 := Aside0.mk (Kd.R_elder' (ro HO1_1.out) (Kd.R_base ho8) hb); replace BK574 := bb BK574 hb; replace HK := Aside0.mk (Kept.below (S := (fun k_ => P1_0_ k_ ∨ P1_1_ k_)) (by repeat (first | (with_reducible first | exact HK.out | apply Kept.alloc | apply Kept.drewN | apply Kept.drew | refine Kept.setCell ?_ (.inr GW574.out) _) | exact HK.out)) hb); replace HB := bs HB hb; clear hb ho8))
 (try simp only [Act.put, List.setIfInBounds_toArray, List.set_cons_zero, List.set_cons_succ])
 go_cut [21] (fun v21 wc => ∃ (kq : Nat) (x21_2 : Bool), v21 = .bool x21_2 ∧ Aside0 (impl_GuessOf.j0 kq a0 y575 x21_2 l1_0 l1_1 a1_2 = some r) ∧ Aside0 (kq ≤ k) ∧ Aside0 (Kd.R (Kd.int .i64) 3 wc w0.heap.size (fun k_ => ((P1_0_ k_ ∨ P1_1_ k_) ∨ w.heap.size ≤ k_) ∧ some k_ ≠ ((.slice Ao4 l1_0.length co4) : Value).ownBlock ∧ some k_ ≠ ((.slice Ao5 l1_1.length co5) : Value).ownBlock) v576 y575) ∧ Aside0 (Kd.R (Kd.int .i64) 3 wc w0.heap.size (fun k_ => ((P1_0_ k_ ∨ P1_1_ k_) ∨ w.heap.size ≤ k_) ∧ some k_ ≠ (v576 : Value).ownBlock ∧ some k_ ≠ ((.slice Ao5 l1_1.length co5) : Value).ownBlock) (.slice Ao4 l1_0.length co4) l1_0) ∧ Aside0 (Kd.R (Kd.int .i64) 3 wc w0.heap.size (fun k_ => ((P1_0_ k_ ∨ P1_1_ k_) ∨ w.heap.size ≤ k_) ∧ some k_ ≠ (v576 : Value).ownBlock ∧ some k_ ≠ ((.slice Ao4 l1_0.length co4) : Value).ownBlock) (.slice Ao5 l1_1.length co5) l1_1) ∧ Aside0 (wc.heap[gb574]? = some (.cells #[(.slice Ao4 l1_0.length co4), (.slice Ao5 l1_1.length co5), .int .i64 a1_2] 101 (0, 0))) ∧ Aside0 (Kept w wc (fun k_ => P1_0_ k_ ∨ P1_1_ k_)) ∧ Aside0 (Below w0.heap.size w0 wc))
 case first =>
  have H := HC3.out
  clear HC3
  replace H := bnd H
  obtain ⟨t578, A9, H⟩ := H
  by_cases c10 : t578 = true
  ·subst c10
   rw [if_pos rfl] at H
   replace H := bnd H
   obtain ⟨t579, A11, H⟩ := H
   have H' := Aside0.mk H
   clear H
   obtain ⟨hcz12_0, hcz12_1, hcz12_2, hfz12_0, hfz12_1, hfz12_2⟩ := cl3 BK574
   go_wp2_with (first | ((with_reducible refine gate_callee (f := 120) rfl ?_); refine gL (some 15) Try.func120 #[.agg #[.slice Ao4 l1_0.length co4, .slice Ao5 l1_1.length co5, .int .i64 a1_2]] ?_; (with_reducible refine (impl_EdgesOk.calls k (fun k_ => some k_ = (.slice Ao4 l1_0.length co4 : Value).ownBlock) _ _ l1_0 (fun k_ => some k_ = (.slice Ao5 l1_1.length co5 : Value).ownBlock) _ _ l1_1 a1_2 true _ ?side1 ?side2 A9.out).mono ?_); (case side1 => exact Kd.R_V (Kd.R_tight rfl (Kd.R_types (HO1_0.out) BK574.out (by decide)))); (case side2 => exact Kd.R_V (Kd.R_tight rfl (Kd.R_types (HO1_1.out) BK574.out (by decide)))); rintro e w13 ⟨rfl, hb⟩; refine ⟨_, rfl, ?_⟩; replace HO1_0 := Aside0.mk (Kd.R_below (ro HO1_0.out) hb); replace HO1_1 := Aside0.mk (Kd.R_below (ro HO1_1.out) hb); replace HO577 := Aside0.mk (Kd.R_below (ro HO577.out) hb); replace BK574 := bb BK574 hb; replace HK := Aside0.mk (Kept.below (S := (fun k_ => P1_0_ k_ ∨ P1_1_ k_)) (by repeat (first | (with_reducible first | exact HK.out | apply Kept.alloc | apply Kept.drewN | apply Kept.drew | refine Kept.setCell ?_ (.inr GW574.out) _) | exact HK.out)) hb); replace HB := bs HB hb; (try clear hb)) | (go_at_call 55; (with_reducible refine (impl_within.calls a0 0 3 t579 _ A11.out).mono ?_); rintro e w' ⟨rfl, ⟨nd, rfl⟩⟩))
   go_meet
   case rel => exact ⟨_, (!t579), rv, H', om, (ra (Kd.R_mono HO577.out (fun _ hk => ⟨hk.1.1.1, ⟨hk.1.2, hk.2⟩⟩))), (ra (Kd.R_mono HO1_0.out (fun _ hk => ⟨hk.1.1, ⟨hk.2, hk.1.2⟩⟩))), (ra (Kd.R_mono HO1_1.out (fun _ hk => ⟨hk.1.1, ⟨hk.2, hk.1.2⟩⟩))), bk BK574, ⟨by repeat (first | (with_reducible first | exact HK.out | apply Kept.alloc | apply Kept.drewN | apply Kept.drew | refine Kept.setCell ?_ (.inr GW574.out) _) | exact HK.out)⟩, bh HB⟩
  ·replace c10 := Bool.eq_false_iff.mpr c10
   subst c10
   rw [if_neg nft] at H
   have H' := Aside0.mk H
   clear H
   obtain ⟨hcz14_0, hcz14_1, hcz14_2, hfz14_0, hfz14_1, hfz14_2⟩ := cl3 BK574
   go_wp2_with (first | ((with_reducible refine gate_callee (f := 120) rfl ?_); refine gL (some 15) Try.func120 #[.agg #[.slice Ao4 l1_0.length co4, .slice Ao5 l1_1.length co5, .int .i64 a1_2]] ?_; (with_reducible refine (impl_EdgesOk.calls k (fun k_ => some k_ = (.slice Ao4 l1_0.length co4 : Value).ownBlock) _ _ l1_0 (fun k_ => some k_ = (.slice Ao5 l1_1.length co5 : Value).ownBlock) _ _ l1_1 a1_2 false _ ?side1 ?side2 A9.out).mono ?_); (case side1 => exact Kd.R_V (Kd.R_tight rfl (Kd.R_types (HO1_0.out) BK574.out (by decide)))); (case side2 => exact Kd.R_V (Kd.R_tight rfl (Kd.R_types (HO1_1.out) BK574.out (by decide)))); rintro e w15 ⟨rfl, hb⟩; refine ⟨_, rfl, ?_⟩; replace HO1_0 := Aside0.mk (Kd.R_below (ro HO1_0.out) hb); replace HO1_1 := Aside0.mk (Kd.R_below (ro HO1_1.out) hb); replace HO577 := Aside0.mk (Kd.R_below (ro HO577.out) hb); replace BK574 := bb BK574 hb; replace HK := Aside0.mk (Kept.below (S := (fun k_ => P1_0_ k_ ∨ P1_1_ k_)) (by repeat (first | (with_reducible first | exact HK.out | apply Kept.alloc | apply Kept.drewN | apply Kept.drew | refine Kept.setCell ?_ (.inr GW574.out) _) | exact HK.out)) hb); replace HB := bs HB hb; (try clear hb)))
   go_meet
   case rel => exact ⟨_, (true), rv, H', om, (ra (Kd.R_mono HO577.out (fun _ hk => ⟨hk.1.1.1, ⟨hk.1.2, hk.2⟩⟩))), (ra (Kd.R_mono HO1_0.out (fun _ hk => ⟨hk.1.1, ⟨hk.2, hk.1.2⟩⟩))), (ra (Kd.R_mono HO1_1.out (fun _ hk => ⟨hk.1.1, ⟨hk.2, hk.1.2⟩⟩))), bk BK574, ⟨by repeat (first | (with_reducible first | exact HK.out | apply Kept.alloc | apply Kept.drewN | apply Kept.drew | refine Kept.setCell ?_ (.inr GW574.out) _) | exact HK.out)⟩, bh HB⟩
 case rest =>
  clear HC3
  try clear hcz12_0 hcz12_1 hcz12_2 hfz12_0 hfz12_1 hfz12_2
  try clear hcz14_0 hcz14_1 hcz14_2 hfz14_0 hfz14_1 hfz14_2
  obtain ⟨kq, x21_2, rfl, HA, HJ2, HO_5, HO_575000, HO_575001, BK574, HK, HB⟩ := hcut
  cases kq with
  | zero => exact absurd HA.out (by simp [impl_GuessOf.j0])
  | succ kj2 =>
   have H := HA.out
   clear HA
   simp only [impl_GuessOf.j0] at H
   by_cases c16 : x21_2 = true
   ·subst c16
    rw [if_pos rfl] at H
    obtain rfl := Option.some.inj H
    go_wp2
    go_ret
    exact ⟨_, re, ro (Kd.R_mono HO_5.out (fun _ hk => hk.1)), by repeat (first | (with_reducible first | exact HB.out | apply below_alloc | apply pw_below_drewN | apply below_drew1 | refine below_set ?_ GE574.out) | exact HB.out), by repeat (first | (with_reducible first | exact HK.out | apply Kept.alloc | apply Kept.drewN | apply Kept.drew | refine Kept.setCell ?_ (.inr GW574.out) _) | exact HK.out)⟩
   ·replace c16 := Bool.eq_false_iff.mpr c16
    subst c16
    rw [if_neg nft] at H
    have HC17 := Aside0.mk H
    clear H
    obtain ⟨hcz18_0, hcz18_1, hcz18_2, hfz18_0, hfz18_1, hfz18_2⟩ := cl3 BK574
    go_upto_if 31 with (fail)
    go_cut [6] (fun v6 wc => ∃ (kq : Nat) (x6_16 : Int), v6 = .int .i64 x6_16 ∧ Aside0 (impl_GuessOf.j1 kq a0 y575 x6_16 l1_0 l1_1 a1_2 = some r) ∧ Aside0 (kq ≤ kj2) ∧ Aside0 (Kd.R (Kd.int .i64) 3 wc w0.heap.size (fun k_ => ((P1_0_ k_ ∨ P1_1_ k_) ∨ w.heap.size ≤ k_) ∧ some k_ ≠ ((.slice Ao4 l1_0.length co4) : Value).ownBlock ∧ some k_ ≠ ((.slice Ao5 l1_1.length co5) : Value).ownBlock) v576 y575) ∧ Aside0 (Kd.R (Kd.int .i64) 3 wc w0.heap.size (fun k_ => ((P1_0_ k_ ∨ P1_1_ k_) ∨ w.heap.size ≤ k_) ∧ some k_ ≠ (v576 : Value).ownBlock ∧ some k_ ≠ ((.slice Ao5 l1_1.length co5) : Value).ownBlock) (.slice Ao4 l1_0.length co4) l1_0) ∧ Aside0 (Kd.R (Kd.int .i64) 3 wc w0.heap.size (fun k_ => ((P1_0_ k_ ∨ P1_1_ k_) ∨ w.heap.size ≤ k_) ∧ some k_ ≠ (v576 : Value).ownBlock ∧ some k_ ≠ ((.slice Ao4 l1_0.length co4) : Value).ownBlock) (.slice Ao5 l1_1.length co5) l1_1) ∧ Aside0 (wc.heap[gb574]? = some (.cells #[(.slice Ao4 l1_0.length co4), (.slice Ao5 l1_1.length co5), .int .i64 a1_2] 101 (0, 0))) ∧ Aside0 (Kept w wc (fun k_ => P1_0_ k_ ∨ P1_1_ k_)) ∧ Aside0 (Below w0.heap.size w0 wc))
    case first =>
     have H := HC17.out
     clear HC17
     by_cases c19 : (wrap64 ((l1_0.length : Int) + (l1_1.length : Int))) > 0
     ·rw [if_pos c19] at H
      have c19b0 : decide (0 < (wrap64 ((l1_0.length : Int) + (l1_1.length : Int)))) = true := decide_eq_true c19
      clear c19
      (first | rw [c19b0] | (simp only [i64_w, i32_w]; rw [c19b0]) | skip)
      replace H := bnd H
      obtain ⟨t580, A20, H⟩ := H
      replace H := bnd H
      obtain ⟨t581, A21, H⟩ := H
      by_cases c22 : (wrap64 ((l1_0.length : Int) + (l1_1.length : Int))) = 0
      ·rw [if_pos c22] at H
       exact absurd H (by simp)
      ·rw [if_neg c22] at H
       obtain ⟨c22b0, c22b1⟩ := eqf c22
       have H' := Aside0.mk H
       clear H
       try go_wp2
       replace HO_5 := Aside0.mk (Kd.R_drew HO_5.out)
       replace HO_575000 := Aside0.mk (Kd.R_drew HO_575000.out)
       replace HO_575001 := Aside0.mk (Kd.R_drew HO_575001.out)
       replace BK574 := Aside0.mk (blk_drew BK574.out)
       replace HK := Aside0.mk (Kept.drew HK.out)
       replace HB := Aside0.mk (below_drew1 HB.out)
       refine start_ (n := 13) (S := fun w' => w'.cell? ⟨gb574, 0, none⟩ = some (.slice Ao4 l1_0.length co4) ∧ w'.cell? ⟨gb574, 1, none⟩ = some (.slice Ao5 l1_1.length co5) ∧ w'.cell? ⟨gb574, 2, none⟩ = some (.int .i64 a1_2)) (ds := []) (ba 13 0) (by kernel_rfl) rfl rfl ⟨bc BK574 0, bc BK574 1, bc BK574 2⟩ (fun hHeld => ?_); refine with_tabW impl_GuessOf.tab7 impl_GuessOf.bits7 (fun HT_ HW_ => ?_)
       generalize wc.drew = w23 at HO_5 HO_575000 HO_575001 BK574 HK HB hHeld ⊢
       refine pu 0 32 (ba 13 1) ?_
       refine pu 3 35 (ba 13 9) ?_
       refine pu 7 39 (ba 13 137) ?_
       refine pu 8 40 (ba 13 393) ?_
       refine pu 10 42 (ba 13 1417) ?_
       refine tk 1 33 (ba 13 1419) hHeld ?_
       refine tk 4 36 (ba 13 1435) hHeld ?_
       refine on 2 34 (ba 13 1439) (fun K hK => ?_)
       refine gS Try.func121 #[.slice Ao4 l1_0.length co4] ?_
       with_reducible refine (impl_sumOf.calls kj2 _ _ l1_0 t580 _ ?side1 ?side2 A20.out).mono ?_
       (case side1 => exact ca ((Kd.R_reads' HO_575000.out).2.2))
       (case side2 => exact (Kd.R_reads' HO_575000.out).2.1)
       rintro e w' ⟨rfl, ⟨nd, rfl⟩⟩
       refine ⟨_, rfl, ?_⟩
       refine hK.out _ _ ⟨bc BK574 0, bc BK574 1, bc BK574 2⟩ (fun hHeld => ?_)
       clear hK K
       refine nm ?_
       refine on 5 37 (ba 13 1471) (fun K hK => ?_)
       refine gS Try.func121 #[.slice Ao5 l1_1.length co5] ?_
       with_reducible refine (impl_sumOf.calls kj2 _ _ l1_1 t581 _ ?side1 ?side2 A21.out).mono ?_
       (case side1 => exact ca ((Kd.R_reads' HO_575001.out).2.2))
       (case side2 => exact (Kd.R_reads' HO_575001.out).2.1)
       rintro e w' ⟨rfl, ⟨nd, rfl⟩⟩
       refine ⟨_, rfl, ?_⟩
       refine hK.out _ _ ⟨bc BK574 0, bc BK574 1, bc BK574 2⟩ (fun hHeld => ?_)
       clear hK K
       refine nm ?_
       refine pu 6 38 (ba 13 1535) ?_
       refine pu 9 41 (ba 13 2047) ?_
       refine pu 11 43 (ba 13 4095) ?_
       refine pu 12 6 (ba 13 8191) ?_
       refine done_ (done_of HT_.out (by kernel_rfl)) ?_
       try go_wp2
       go_meet
       case rel => exact ⟨_, (wrap64 (Int.tdiv (wrap64 ((wrap64 (t580 + t581)) + (wrap64 (Int.tdiv (wrap64 ((l1_0.length : Int) + (l1_1.length : Int))) 2)))) (wrap64 ((l1_0.length : Int) + (l1_1.length : Int))))), rv, H', (om1 HJ2.out), (ra HO_5.out), (ra HO_575000.out), (ra HO_575001.out), bk BK574, ⟨by repeat (first | (with_reducible first | exact HK.out | apply Kept.alloc | apply Kept.drewN | apply Kept.drew | refine Kept.setCell ?_ (.inr GW574.out) _) | exact HK.out)⟩, bh HB⟩
     ·rw [if_neg c19] at H
      have c19b0 : decide (0 < (wrap64 ((l1_0.length : Int) + (l1_1.length : Int)))) = false := decide_eq_false c19
      clear c19
      (first | rw [c19b0] | (simp only [i64_w, i32_w]; rw [c19b0]) | skip)
      have H' := Aside0.mk H
      clear H
      go_wp2
      go_meet
      case rel => exact ⟨_, (128), rv, H', (om1 HJ2.out), (ra HO_5.out), (ra HO_575000.out), (ra HO_575001.out), bk BK574, ⟨by repeat (first | (with_reducible first | exact HK.out | apply Kept.alloc | apply Kept.drewN | apply Kept.drew | refine Kept.setCell ?_ (.inr GW574.out) _) | exact HK.out)⟩, bh HB⟩
    case rest =>
     clear HC17
     try clear hcz12_0 hcz12_1 hcz12_2 hfz12_0 hfz12_1 hfz12_2
     try clear hcz14_0 hcz14_1 hcz14_2 hfz14_0 hfz14_1 hfz14_2
     try clear hcz18_0 hcz18_1 hcz18_2 hfz18_0 hfz18_1 hfz18_2
     obtain ⟨kq, x6_16, rfl, HA, HJ16, HO_5, HO_575000, HO_575001, BK574, HK, HB⟩ := hcut
     cases kq with
     | zero => exact absurd HA.out (by simp [impl_GuessOf.j1])
     | succ kj16 =>
      have H := HA.out
      clear HA
      simp only [impl_GuessOf.j1] at H
      replace H := bnd H
      obtain ⟨t582, A24, H⟩ := H
      replace H := bnd H
      obtain ⟨t585, A25, H⟩ := H
      have HC26 := Aside0.mk H
      clear H
      try go_wp2
      replace HO_5 := Aside0.mk (Kd.R_drew HO_5.out)
      replace HO_575000 := Aside0.mk (Kd.R_drew HO_575000.out)
      replace HO_575001 := Aside0.mk (Kd.R_drew HO_575001.out)
      replace BK574 := Aside0.mk (blk_drew BK574.out)
      replace HK := Aside0.mk (Kept.drew HK.out)
      replace HB := Aside0.mk (below_drew1 HB.out)
      refine start_ (n := 11) (S := fun w' => w'.cell? ⟨gb574, 0, none⟩ = some (.slice Ao4 l1_0.length co4) ∧ w'.cell? ⟨gb574, 1, none⟩ = some (.slice Ao5 l1_1.length co5) ∧ w'.cell? ⟨gb574, 2, none⟩ = some (.int .i64 a1_2)) (ds := []) (ba 11 0) (by kernel_rfl) rfl rfl ⟨bc BK574 0, bc BK574 1, bc BK574 2⟩ (fun hHeld => ?_); refine with_tabW impl_GuessOf.tab8 impl_GuessOf.bits8 (fun HT_ HW_ => ?_)
      generalize wc.drew = w27 at HO_5 HO_575000 HO_575001 BK574 HK HB hHeld ⊢
      refine pu 0 44 (ba 11 1) ?_
      refine pu 3 47 (ba 11 9) ?_
      refine pu 6 50 (ba 11 73) ?_
      refine tk 1 45 (ba 11 75) hHeld ?_
      refine tk 4 48 (ba 11 91) hHeld ?_
      refine tk 7 51 (ba 11 219) hHeld ?_
      refine on 2 46 (ba 11 223) (fun K hK => ?_)
      refine gS Try.func122 #[.slice Ao4 l1_0.length co4] ?_
      with_reducible refine (impl_orGrey.calls (fun k_ => some k_ = (.slice Ao4 l1_0.length co4 : Value).ownBlock) (.slice Ao4 l1_0.length co4) l1_0 t582 w0 _ ?side1 ?side2 A24.out).mono ?_
      (case side1 => repeat (first | (with_reducible first | exact HB.out | apply below_alloc | apply pw_below_drewN | apply below_drew1 | refine below_set ?_ GE574.out) | exact HB.out))
      (case side2 => exact Kd.R_tight rfl HO_575000.out)
      rintro e w28 ⟨v583, rfl, ho0, hb, hkp⟩
      refine ⟨_, rfl, ?_⟩
      have HO584 := Aside0.mk (Kd.R_mono (ok' := fun k_ => ((P1_0_ k_ ∨ P1_1_ k_) ∨ w.heap.size ≤ k_) ∧ some k_ ≠ (v576 : Value).ownBlock ∧ some k_ ≠ (.slice Ao5 l1_1.length co5 : Value).ownBlock) ho0 (fun k_ hk_ => ⟨Or.elim hk_ (fun hs_ => (HO_575000.out.1 k_ (hs_).symm).1) (fun hn_ => (.inr (Nat.le_trans (by first | exact HK.out.1 | exact (show Kept w _ (fun k_ => P1_0_ k_ ∨ P1_1_ k_) from by repeat (first | (with_reducible first | exact HK.out | apply Kept.alloc | apply Kept.drewN | apply Kept.drew | refine Kept.setCell ?_ (.inr GW574.out) _) | exact HK.out)).1) hn_))), Or.elim hk_ (fun hs_ => fun e_ => (((HO_5.out).1 k_ e_.symm).2.1) hs_) (fun hn_ => (Kd.fresh' (Kd.R_lt (ro HO_5.out)) k_ hn_)), Or.elim hk_ (fun hs_ => fun e_ => (((HO_575001.out).1 k_ e_.symm).2.2) hs_) (fun hn_ => (Kd.fresh' (Kd.R_lt (ro HO_575001.out)) k_ hn_))⟩))
      replace HO_5 := Aside0.mk (Kd.R_mono (ok' := fun k_ => ((P1_0_ k_ ∨ P1_1_ k_) ∨ w.heap.size ≤ k_) ∧ some k_ ≠ (.slice Ao5 l1_1.length co5 : Value).ownBlock ∧ some k_ ≠ (v583 : Value).ownBlock) (Kd.R_keptB (HO_5.out) hkp (fun k_ hk_ hs_ => (hk_.2.1) hs_)) (fun k_ hk_ => ⟨hk_.1.1, hk_.1.2.2, fun e_ => Or.elim (ho0.1 k_ e_.symm) (fun hs_ => hk_.2.1 hs_) (fun hn_ => Nat.not_le.2 hk_.2.2 hn_)⟩))
      replace HO_575001 := Aside0.mk (Kd.R_mono (ok' := fun k_ => ((P1_0_ k_ ∨ P1_1_ k_) ∨ w.heap.size ≤ k_) ∧ some k_ ≠ (v576 : Value).ownBlock ∧ some k_ ≠ (v583 : Value).ownBlock) (Kd.R_keptB (HO_575001.out) hkp (fun k_ hk_ hs_ => (hk_.2.2) hs_)) (fun k_ hk_ => ⟨hk_.1.1, hk_.1.2.1, fun e_ => Or.elim (ho0.1 k_ e_.symm) (fun hs_ => hk_.2.1 hs_) (fun hn_ => Nat.not_le.2 hk_.2.2 hn_)⟩))
      replace BK574 := Aside0.mk (blk_kept (bt BK574) hkp (fun hs_ => (fun e_ => (Kd.R_ne HO_575000.out BK574.out (by decide)) e_) hs_))
      replace HK := Aside0.mk (Kept.then_ (S := (fun k_ => P1_0_ k_ ∨ P1_1_ k_)) (by repeat (first | (with_reducible first | exact HK.out | apply Kept.alloc | apply Kept.drewN | apply Kept.drew | refine Kept.setCell ?_ (.inr GW574.out) _) | exact HK.out)) hkp (fun k_ hs_ => (fun e_ => (HO_575000.out.1 k_ e_.symm).1) hs_))
      replace HB := Aside0.mk (hb)
      clear HO_575000
      (try clear hb)
      (try clear hkp)
      (try clear ho0)
      refine hK.out _ _ ⟨bc BK574 0, bc BK574 1, bc BK574 2⟩ (fun hHeld => ?_)
      clear hK K
      refine nm ?_
      refine on 5 49 (ba 11 255) (fun K hK => ?_)
      refine gS Try.func122 #[.slice Ao5 l1_1.length co5] ?_
      with_reducible refine (impl_orGrey.calls (fun k_ => some k_ = (.slice Ao5 l1_1.length co5 : Value).ownBlock) (.slice Ao5 l1_1.length co5) l1_1 t585 w0 _ ?side1 ?side2 A25.out).mono ?_
      (case side1 => repeat (first | (with_reducible first | exact HB.out | apply below_alloc | apply pw_below_drewN | apply below_drew1 | refine below_set ?_ GE574.out) | exact HB.out))
      (case side2 => exact Kd.R_tight rfl HO_575001.out)
      rintro e w29 ⟨v586, rfl, ho0, hb, hkp⟩
      refine ⟨_, rfl, ?_⟩
      have HO587 := Aside0.mk (Kd.R_mono (ok' := fun k_ => ((P1_0_ k_ ∨ P1_1_ k_) ∨ w.heap.size ≤ k_) ∧ some k_ ≠ (v576 : Value).ownBlock ∧ some k_ ≠ (v583 : Value).ownBlock) ho0 (fun k_ hk_ => ⟨Or.elim hk_ (fun hs_ => (HO_575001.out.1 k_ (hs_).symm).1) (fun hn_ => (.inr (Nat.le_trans (by first | exact HK.out.1 | exact (show Kept w _ (fun k_ => P1_0_ k_ ∨ P1_1_ k_) from by repeat (first | (with_reducible first | exact HK.out | apply Kept.alloc | apply Kept.drewN | apply Kept.drew | refine Kept.setCell ?_ (.inr GW574.out) _) | exact HK.out)).1) hn_))), Or.elim hk_ (fun hs_ => fun e_ => (((HO_5.out).1 k_ e_.symm).2.1) hs_) (fun hn_ => (Kd.fresh' (Kd.R_lt (ro HO_5.out)) k_ hn_)), Or.elim hk_ (fun hs_ => fun e_ => (((HO584.out).1 k_ e_.symm).2.2) hs_) (fun hn_ => (Kd.fresh' (Kd.R_lt (ro HO584.out)) k_ hn_))⟩))
      replace HO_5 := Aside0.mk (Kd.R_mono (ok' := fun k_ => ((P1_0_ k_ ∨ P1_1_ k_) ∨ w.heap.size ≤ k_) ∧ some k_ ≠ (v583 : Value).ownBlock ∧ some k_ ≠ (v586 : Value).ownBlock) (Kd.R_keptB (HO_5.out) hkp (fun k_ hk_ hs_ => (hk_.2.1) hs_)) (fun k_ hk_ => ⟨hk_.1.1, hk_.1.2.2, fun e_ => Or.elim (ho0.1 k_ e_.symm) (fun hs_ => hk_.2.1 hs_) (fun hn_ => Nat.not_le.2 hk_.2.2 hn_)⟩))
      replace BK574 := Aside0.mk (blk_kept (bt BK574) hkp (fun hs_ => (fun e_ => (Kd.R_ne HO_575001.out BK574.out (by decide)) e_) hs_))
      replace HO584 := Aside0.mk (Kd.R_mono (ok' := fun k_ => ((P1_0_ k_ ∨ P1_1_ k_) ∨ w.heap.size ≤ k_) ∧ some k_ ≠ (v576 : Value).ownBlock ∧ some k_ ≠ (v586 : Value).ownBlock) (Kd.R_keptB (HO584.out) hkp (fun k_ hk_ hs_ => (hk_.2.2) hs_)) (fun k_ hk_ => ⟨hk_.1.1, hk_.1.2.1, fun e_ => Or.elim (ho0.1 k_ e_.symm) (fun hs_ => hk_.2.1 hs_) (fun hn_ => Nat.not_le.2 hk_.2.2 hn_)⟩))
      replace HK := Aside0.mk (Kept.then_ (S := (fun k_ => P1_0_ k_ ∨ P1_1_ k_)) (by repeat (first | (with_reducible first | exact HK.out | apply Kept.alloc | apply Kept.drewN | apply Kept.drew | refine Kept.setCell ?_ (.inr GW574.out) _) | exact HK.out)) hkp (fun k_ hs_ => (fun e_ => (HO_575001.out.1 k_ e_.symm).1) hs_))
      replace HB := Aside0.mk (hb)
      clear HO_575001
      (try clear hb)
      (try clear hkp)
      (try clear ho0)
      refine hK.out _ _ ⟨bc BK574 0, bc BK574 1, bc BK574 2⟩ (fun hHeld => ?_)
      clear hK K
      refine nm ?_
      refine pu 8 8 (ba 11 511) ?_
      refine pu 9 9 (ba 11 1023) ?_
      refine pu 10 10 (ba 11 2047) ?_
      refine done_ (done_of HT_.out (by kernel_rfl)) ?_
      go_upto_if 53 with (fail)
      go_cut [10] (fun v10 wc => ∃ (kq : Nat) (x10_25 : Int), v10 = .int .i64 x10_25 ∧ Aside0 (impl_GuessOf.j2 kq a0 y575 x6_16 t582 t585 x10_25 = some r) ∧ Aside0 (kq ≤ kj16) ∧ Aside0 (Kd.R (Kd.int .i64) 3 wc w0.heap.size (fun k_ => ((P1_0_ k_ ∨ P1_1_ k_) ∨ w.heap.size ≤ k_) ∧ some k_ ≠ (v583 : Value).ownBlock ∧ some k_ ≠ (v586 : Value).ownBlock) v576 y575) ∧ Aside0 (Kd.R (Kd.int .i64) 3 wc w0.heap.size (fun k_ => ((P1_0_ k_ ∨ P1_1_ k_) ∨ w.heap.size ≤ k_) ∧ some k_ ≠ (v576 : Value).ownBlock ∧ some k_ ≠ (v586 : Value).ownBlock) v583 t582) ∧ Aside0 (Kd.R (Kd.int .i64) 3 wc w0.heap.size (fun k_ => ((P1_0_ k_ ∨ P1_1_ k_) ∨ w.heap.size ≤ k_) ∧ some k_ ≠ (v576 : Value).ownBlock ∧ some k_ ≠ (v583 : Value).ownBlock) v586 t585) ∧ Aside0 (Kept w wc (fun k_ => P1_0_ k_ ∨ P1_1_ k_)) ∧ Aside0 (Below w0.heap.size w0 wc))
      case first =>
       have H := HC26.out
       clear HC26
       by_cases c30 : a1_2 < 0
       ·rw [if_pos c30] at H
        have c30b0 := decide_eq_true c30
        clear c30
        (first | rw [c30b0] | (simp only [i64_w, i32_w]; rw [c30b0]) | skip)
        have H' := Aside0.mk H
        clear H
        go_wp2
        go_meet
        case rel => exact ⟨_, (128), rv, H', ⟨by have := HJ2.out; have := HJ16.out; first | omega | exact Nat.le_refl _⟩, (ra HO_5.out), (ra HO584.out), (ra HO587.out), ⟨by repeat (first | (with_reducible first | exact HK.out | apply Kept.alloc | apply Kept.drewN | apply Kept.drew | refine Kept.setCell ?_ (.inr GW574.out) _) | exact HK.out)⟩, bh HB⟩
       ·rw [if_neg c30] at H
        have c30b0 := decide_eq_false c30
        clear c30
        (first | rw [c30b0] | (simp only [i64_w, i32_w]; rw [c30b0]) | skip)
        have H' := Aside0.mk H
        clear H
        go_wp2
        go_meet
        case rel => exact ⟨_, (a1_2), rv, H', ⟨by have := HJ2.out; have := HJ16.out; first | omega | exact Nat.le_refl _⟩, (ra HO_5.out), (ra HO584.out), (ra HO587.out), ⟨by repeat (first | (with_reducible first | exact HK.out | apply Kept.alloc | apply Kept.drewN | apply Kept.drew | refine Kept.setCell ?_ (.inr GW574.out) _) | exact HK.out)⟩, bh HB⟩
      case rest =>
       clear HC26
       try clear hcz12_0 hcz12_1 hcz12_2 hfz12_0 hfz12_1 hfz12_2
       try clear hcz14_0 hcz14_1 hcz14_2 hfz14_0 hfz14_1 hfz14_2
       try clear hcz18_0 hcz18_1 hcz18_2 hfz18_0 hfz18_1 hfz18_2
       obtain ⟨kq, x10_25, rfl, HA, HJ25, HO_5, HO_8, HO_9, HK, HB⟩ := hcut
       cases kq with
       | zero => exact absurd HA.out (by simp [impl_GuessOf.j2])
       | succ kj25 =>
        have H := HA.out
        clear HA
        simp only [impl_GuessOf.j2] at H
        have H' := Aside0.mk H
        clear H
        go_wp2
        go_loopg [5, 54] kj25 (fun kq v5 v54 w' => ∃ (x5_4 : List Int) (x54_4 : Int), v54 = .int .i64 x54_4 ∧ Aside0 (impl_GuessOf.l0 kq a0 x5_4 x6_16 t582 t585 x10_25 x54_4 = some r) ∧ Aside0 (kq ≤ kj25) ∧ Aside0 (Kd.R (Kd.int .i64) 3 w' w0.heap.size (fun k_ => ((P1_0_ k_ ∨ P1_1_ k_) ∨ w.heap.size ≤ k_) ∧ some k_ ≠ (v583 : Value).ownBlock ∧ some k_ ≠ (v586 : Value).ownBlock) v5 x5_4) ∧ Aside0 (Kd.R (Kd.int .i64) 3 w' w0.heap.size (fun k_ => ((P1_0_ k_ ∨ P1_1_ k_) ∨ w.heap.size ≤ k_) ∧ some k_ ≠ (v5 : Value).ownBlock ∧ some k_ ≠ (v586 : Value).ownBlock) v583 t582) ∧ Aside0 (Kd.R (Kd.int .i64) 3 w' w0.heap.size (fun k_ => ((P1_0_ k_ ∨ P1_1_ k_) ∨ w.heap.size ≤ k_) ∧ some k_ ≠ (v5 : Value).ownBlock ∧ some k_ ≠ (v583 : Value).ownBlock) v586 t585) ∧ Aside0 (Kept w w' (fun k_ => P1_0_ k_ ∨ P1_1_ k_)) ∧ Aside0 (Below w0.heap.size w0 w'))
        case atStart => exact ⟨(y575), (0), rv, H', ⟨Nat.le_refl _⟩, (ra HO_5.out), (ra HO_8.out), (ra HO_9.out), ⟨by repeat (first | (with_reducible first | exact HK.out | apply Kept.alloc | apply Kept.drewN | apply Kept.drew) | exact HK.out)⟩, bh HB⟩
        case round =>
         clear H'
         try clear hcz12_0 hcz12_1 hcz12_2 hfz12_0 hfz12_1 hfz12_2
         try clear hcz14_0 hcz14_1 hcz14_2 hfz14_0 hfz14_1 hfz14_2
         try clear hcz18_0 hcz18_1 hcz18_2 hfz18_0 hfz18_1 hfz18_2
         obtain ⟨x5_4, x54_4, rfl, HA, HK4, HO_5, HO_8, HO_9, HK, HB⟩ := hrel
         cases gk with
         | zero => exact absurd HA.out (by simp [impl_GuessOf.l0])
         | succ k4 =>
          have H := HA.out
          clear HA
          simp only [impl_GuessOf.l0] at H
          by_cases c31 : x54_4 < 8
          ·rw [if_pos c31] at H
           have c31b0 := decide_eq_true c31
           clear c31
           have H' := Aside0.mk H
           clear H
           go_wp2
           go_loopg [5, 57] k4 (fun kq v5 v57 w' => ∃ (x5_5 : List Int) (x57_5 : Int), v57 = .int .i64 x57_5 ∧ Aside0 (impl_GuessOf.l1 kq a0 x5_5 x6_16 t582 t585 x10_25 x54_4 x54_4 x57_5 = some r) ∧ Aside0 (kq ≤ k4) ∧ Aside0 (Kd.R (Kd.int .i64) 3 w' w0.heap.size (fun k_ => ((P1_0_ k_ ∨ P1_1_ k_) ∨ w.heap.size ≤ k_) ∧ some k_ ≠ (v583 : Value).ownBlock ∧ some k_ ≠ (v586 : Value).ownBlock) v5 x5_5) ∧ Aside0 (Kd.R (Kd.int .i64) 3 w' w0.heap.size (fun k_ => ((P1_0_ k_ ∨ P1_1_ k_) ∨ w.heap.size ≤ k_) ∧ some k_ ≠ (v5 : Value).ownBlock ∧ some k_ ≠ (v586 : Value).ownBlock) v583 t582) ∧ Aside0 (Kd.R (Kd.int .i64) 3 w' w0.heap.size (fun k_ => ((P1_0_ k_ ∨ P1_1_ k_) ∨ w.heap.size ≤ k_) ∧ some k_ ≠ (v5 : Value).ownBlock ∧ some k_ ≠ (v583 : Value).ownBlock) v586 t585) ∧ Aside0 (Kept w w' (fun k_ => P1_0_ k_ ∨ P1_1_ k_)) ∧ Aside0 (Below w0.heap.size w0 w'))
           case atStart => exact ⟨(x5_4), (0), rv, H', ⟨Nat.le_refl _⟩, (ra HO_5.out), (ra HO_8.out), (ra HO_9.out), ⟨by repeat (first | (with_reducible first | exact HK.out | apply Kept.alloc | apply Kept.drewN | apply Kept.drew) | exact HK.out)⟩, bh HB⟩
           case round =>
            clear H'
            try clear hcz12_0 hcz12_1 hcz12_2 hfz12_0 hfz12_1 hfz12_2
            try clear hcz14_0 hcz14_1 hcz14_2 hfz14_0 hfz14_1 hfz14_2
            try clear hcz18_0 hcz18_1 hcz18_2 hfz18_0 hfz18_1 hfz18_2
            obtain ⟨x5_5, x57_5, rfl, HA, HK5, HO_5, HO_8, HO_9, HK, HB⟩ := hrel
            cases gk with
            | zero => exact absurd HA.out (by simp [impl_GuessOf.l1])
            | succ k5 =>
             have H := HA.out
             clear HA
             simp only [impl_GuessOf.l1] at H
             by_cases c32 : x57_5 < 8
             ·rw [if_pos c32] at H
              have c32b0 := decide_eq_true c32
              clear c32
              by_cases c33 : a0 = 0
              ·rw [if_pos c33] at H
               obtain ⟨c33b0, c33b1⟩ := eqt c33
               clear c33
               by_cases c34 : x5_5.length < 17592186044416
               ·rw [if_pos c34] at H
                have LMc34 := Aside0.mk c34
                clear c34
                obtain ⟨y588, hy588⟩ : ∃ y_ : List Int, y_ = (x5_5 ++ [x6_16]) := ⟨_, rfl⟩
                replace H : (impl_GuessOf.l1 k5 a0 y588 x6_16 t582 t585 x10_25 x54_4 x54_4 (wrap64 (x57_5 + 1))) = some r := by subst hy588; exact H
                have Ny588 := Aside0.mk hy588
                clear hy588
                have H' := Aside0.mk H
                clear H
                go_wp2_with (first | ((with_reducible refine gate_builtin (b := .append) (xs := #[.tmp 78, .tmp 80]) rfl ?_); at_builtin; refine Kd.R_append (Kd.int .i64) (w0 := w0) w0.heap.size rfl (.tmp 78) (.tmp 80) 35 3 (.int .i64 0) 8 rfl Try.underlying35 info3 rfl (by decide) (by omega) u5 x5_5 x6_16 [.int .i64 x6_16] (fun k_ => ((P1_0_ k_ ∨ P1_1_ k_) ∨ w.heap.size ≤ k_) ∧ some k_ ≠ (v583 : Value).ownBlock ∧ some k_ ≠ (v586 : Value).ownBlock) (fun _ => False) rfl rfl ?aP (fun _ hk => hk.elim) ?aF ?aO ?aB ?aS ?aL ?_; (case aP => exact rfl); (case aB => exact (bo HB)); (case aF => exact (fun k_ hk => ⟨(.inr (Nat.le_trans (by first | exact HK.out.1 | exact (show Kept w _ (fun k_ => P1_0_ k_ ∨ P1_1_ k_) from by repeat (first | (with_reducible first | exact HK.out | apply Kept.alloc | apply Kept.drewN | apply Kept.drew) | exact HK.out)).1) hk)), Kd.fresh' (Kd.R_lt (ro HO_8.out)) k_ hk, Kd.fresh' (Kd.R_lt (ro HO_9.out)) k_ hk⟩)); (case aO => exact (ro HO_5.out)); (case aS => exact (below_size (bo HB))); (case aL => have := LMc34.out; omega); intro v589 w35 ho hb hg hat; rw [← Ny588.out] at ho; have HO590 := Aside0.mk (ho); replace HO_8 := Aside0.mk (Kd.R_after (ok := (fun k_ => ((P1_0_ k_ ∨ P1_1_ k_) ∨ w.heap.size ≤ k_) ∧ some k_ ≠ (v586 : Value).ownBlock)) (ro (Kd.R_mono HO_8.out (fun _ hk => ⟨⟨hk.1, hk.2.2⟩, hk.2.1⟩))) hg hat); replace HO_9 := Aside0.mk (Kd.R_after (ok := (fun k_ => ((P1_0_ k_ ∨ P1_1_ k_) ∨ w.heap.size ≤ k_) ∧ some k_ ≠ (v583 : Value).ownBlock)) (ro (Kd.R_mono HO_9.out (fun _ hk => ⟨⟨hk.1, hk.2.2⟩, hk.2.1⟩))) hg hat); replace HB := Aside0.mk (hb); replace HK := Aside0.mk (Kept.of_grown (S := (fun k_ => P1_0_ k_ ∨ P1_1_ k_)) hg (by repeat (first | (with_reducible first | exact HK.out | apply Kept.alloc | apply Kept.drewN | apply Kept.drew) | exact HK.out)) (fun k_ e_ => (HO_5.out.1 k_ e_).1)); clear HO_5; clear ho hb hg hat))
                go_roundg k5
                case measure => have := HJ2.out; have := HJ16.out; have := HJ25.out; have := HK4.out; have := HK5.out; omega
                case rel => exact ⟨(y588), (wrap64 (x57_5 + 1)), rv, H', ⟨by have := HJ2.out; have := HJ16.out; have := HJ25.out; have := HK4.out; have := HK5.out; omega⟩, (ra HO590.out), (ra (Kd.R_mono HO_8.out (fun _ hk => ⟨hk.1.1, ⟨hk.2, hk.1.2⟩⟩))), (ra (Kd.R_mono HO_9.out (fun _ hk => ⟨hk.1.1, ⟨hk.2, hk.1.2⟩⟩))), ⟨by repeat (first | (with_reducible first | exact HK.out | apply Kept.alloc | apply Kept.drewN | apply Kept.drew) | exact HK.out)⟩, bh HB⟩
               ·rw [if_neg c34] at H
                exact absurd H (by simp)
              ·rw [if_neg c33] at H
               obtain ⟨c33b0, c33b1⟩ := eqf c33
               by_cases c36 : a0 = 1
               ·rw [if_pos c36] at H
                obtain ⟨c36b0, c36b1⟩ := eqt c36
                clear c36
                by_cases c37 : 0 ≤ x57_5
                ·rw [if_pos c37] at H
                 have c37b0 := decide_eq_true c37
                 clear c37
                 by_cases c38 : x57_5 < (t582.length : Int)
                 ·rw [if_pos c38] at H
                  have c38b0 := decide_eq_true c38
                  clear c38
                  by_cases c39 : x5_5.length < 17592186044416
                  ·rw [if_pos c39] at H
                   have LMc39 := Aside0.mk c39
                   clear c39
                   obtain ⟨y592, hy592⟩ : ∃ y_ : List Int, y_ = (x5_5 ++ [rd t582 x57_5]) := ⟨_, rfl⟩
                   replace H : (impl_GuessOf.l1 k5 a0 y592 x6_16 t582 t585 x10_25 x54_4 x54_4 (wrap64 (x57_5 + 1))) = some r := by subst hy592; exact H
                   have Ny592 := Aside0.mk hy592
                   clear hy592
                   have H' := Aside0.mk H
                   clear H
                   obtain ⟨Ao40, co40, eo40⟩ := Kd.R_slice HO_8.out
                   subst eo40
                   have p591 : 0 ≤ (x57_5 : Int) := od
                   have q591 : x57_5 < (t582.length : Int) := od
                   obtain ⟨ad591, e591, hx591_0⟩ := Kd.at_int (Kd.R_reads' HO_8.out).2.2 x57_5 p591 q591
                   cases e591
                   replace p591 := eq_true p591
                   replace q591 := eq_true q591
                   go_wp2_with (first | ((with_reducible refine gate_builtin (b := .append) (xs := #[.tmp 84, .tmp 89]) rfl ?_); at_builtin; refine Kd.R_append (Kd.int .i64) (w0 := w0) w0.heap.size rfl (.tmp 84) (.tmp 89) 35 3 (.int .i64 0) 8 rfl Try.underlying35 info3 rfl (by decide) (by omega) u5 x5_5 (rd t582 x57_5) [.int .i64 (rd t582 x57_5)] (fun k_ => ((P1_0_ k_ ∨ P1_1_ k_) ∨ w.heap.size ≤ k_) ∧ some k_ ≠ (.slice (some ad591) t582.length co40 : Value).ownBlock ∧ some k_ ≠ (v586 : Value).ownBlock) (fun _ => False) rfl rfl ?aP (fun _ hk => hk.elim) ?aF ?aO ?aB ?aS ?aL ?_; (case aP => exact rfl); (case aB => exact (bo HB)); (case aF => exact (fun k_ hk => ⟨(.inr (Nat.le_trans (by first | exact HK.out.1 | exact (show Kept w _ (fun k_ => P1_0_ k_ ∨ P1_1_ k_) from by repeat (first | (with_reducible first | exact HK.out | apply Kept.alloc | apply Kept.drewN | apply Kept.drew) | exact HK.out)).1) hk)), Kd.fresh' (Kd.R_lt (ro HO_8.out)) k_ hk, Kd.fresh' (Kd.R_lt (ro HO_9.out)) k_ hk⟩)); (case aO => exact (ro HO_5.out)); (case aS => exact (below_size (bo HB))); (case aL => have := LMc39.out; omega); intro v593 w41 ho hb hg hat; rw [← Ny592.out] at ho; have HO594 := Aside0.mk (ho); replace HO_8 := Aside0.mk (Kd.R_after (ok := (fun k_ => ((P1_0_ k_ ∨ P1_1_ k_) ∨ w.heap.size ≤ k_) ∧ some k_ ≠ (v586 : Value).ownBlock)) (ro (Kd.R_mono HO_8.out (fun _ hk => ⟨⟨hk.1, hk.2.2⟩, hk.2.1⟩))) hg hat); replace HO_9 := Aside0.mk (Kd.R_after (ok := (fun k_ => ((P1_0_ k_ ∨ P1_1_ k_) ∨ w.heap.size ≤ k_) ∧ some k_ ≠ (.slice (some ad591) t582.length co40 : Value).ownBlock)) (ro (Kd.R_mono HO_9.out (fun _ hk => ⟨⟨hk.1, hk.2.2⟩, hk.2.1⟩))) hg hat); replace HB := Aside0.mk (hb); replace HK := Aside0.mk (Kept.of_grown (S := (fun k_ => P1_0_ k_ ∨ P1_1_ k_)) hg (by repeat (first | (with_reducible first | exact HK.out | apply Kept.alloc | apply Kept.drewN | apply Kept.drew) | exact HK.out)) (fun k_ e_ => (HO_5.out.1 k_ e_).1)); clear HO_5; clear ho hb hg hat))
                   go_roundg k5
                   case measure => have := HJ2.out; have := HJ16.out; have := HJ25.out; have := HK4.out; have := HK5.out; omega
                   case rel => exact ⟨(y592), (wrap64 (x57_5 + 1)), rv, H', ⟨by have := HJ2.out; have := HJ16.out; have := HJ25.out; have := HK4.out; have := HK5.out; omega⟩, (ra HO594.out), (ra (Kd.R_mono HO_8.out (fun _ hk => ⟨hk.1.1, ⟨hk.2, hk.1.2⟩⟩))), (ra (Kd.R_mono HO_9.out (fun _ hk => ⟨hk.1.1, ⟨hk.2, hk.1.2⟩⟩))), ⟨by repeat (first | (with_reducible first | exact HK.out | apply Kept.alloc | apply Kept.drewN | apply Kept.drew) | exact HK.out)⟩, bh HB⟩
                  ·rw [if_neg c39] at H
                   exact absurd H (by simp)
                 ·rw [if_neg c38] at H
                  exact absurd H (by simp)
                ·rw [if_neg c37] at H
                 exact absurd H (by simp)
               ·rw [if_neg c36] at H
                obtain ⟨c36b0, c36b1⟩ := eqf c36
                by_cases c42 : a0 = 2
                ·rw [if_pos c42] at H
                 obtain ⟨c42b0, c42b1⟩ := eqt c42
                 clear c42
                 by_cases c43 : 0 ≤ x54_4
                 ·rw [if_pos c43] at H
                  have c43b0 := decide_eq_true c43
                  clear c43
                  by_cases c44 : x54_4 < (t585.length : Int)
                  ·rw [if_pos c44] at H
                   have c44b0 := decide_eq_true c44
                   clear c44
                   by_cases c45 : x5_5.length < 17592186044416
                   ·rw [if_pos c45] at H
                    have LMc45 := Aside0.mk c45
                    clear c45
                    obtain ⟨y596, hy596⟩ : ∃ y_ : List Int, y_ = (x5_5 ++ [rd t585 x54_4]) := ⟨_, rfl⟩
                    replace H : (impl_GuessOf.l1 k5 a0 y596 x6_16 t582 t585 x10_25 x54_4 x54_4 (wrap64 (x57_5 + 1))) = some r := by subst hy596; exact H
                    have Ny596 := Aside0.mk hy596
                    clear hy596
                    have H' := Aside0.mk H
                    clear H
                    obtain ⟨Ao46, co46, eo46⟩ := Kd.R_slice HO_9.out
                    subst eo46
                    have p595 : 0 ≤ (x54_4 : Int) := od
                    have q595 : x54_4 < (t585.length : Int) := od
                    obtain ⟨ad595, e595, hx595_0⟩ := Kd.at_int (Kd.R_reads' HO_9.out).2.2 x54_4 p595 q595
                    cases e595
                    replace p595 := eq_true p595
                    replace q595 := eq_true q595
                    go_wp2_with (first | ((with_reducible refine gate_builtin (b := .append) (xs := #[.tmp 93, .tmp 98]) rfl ?_); at_builtin; refine Kd.R_append (Kd.int .i64) (w0 := w0) w0.heap.size rfl (.tmp 93) (.tmp 98) 35 3 (.int .i64 0) 8 rfl Try.underlying35 info3 rfl (by decide) (by omega) u5 x5_5 (rd t585 x54_4) [.int .i64 (rd t585 x54_4)] (fun k_ => ((P1_0_ k_ ∨ P1_1_ k_) ∨ w.heap.size ≤ k_) ∧ some k_ ≠ (v583 : Value).ownBlock ∧ some k_ ≠ (.slice (some ad595) t585.length co46 : Value).ownBlock) (fun _ => False) rfl rfl ?aP (fun _ hk => hk.elim) ?aF ?aO ?aB ?aS ?aL ?_; (case aP => exact rfl); (case aB => exact (bo HB)); (case aF => exact (fun k_ hk => ⟨(.inr (Nat.le_trans (by first | exact HK.out.1 | exact (show Kept w _ (fun k_ => P1_0_ k_ ∨ P1_1_ k_) from by repeat (first | (with_reducible first | exact HK.out | apply Kept.alloc | apply Kept.drewN | apply Kept.drew) | exact HK.out)).1) hk)), Kd.fresh' (Kd.R_lt (ro HO_8.out)) k_ hk, Kd.fresh' (Kd.R_lt (ro HO_9.out)) k_ hk⟩)); (case aO => exact (ro HO_5.out)); (case aS => exact (below_size (bo HB))); (case aL => have := LMc45.out; omega); intro v597 w47 ho hb hg hat; rw [← Ny596.out] at ho; have HO598 := Aside0.mk (ho); replace HO_8 := Aside0.mk (Kd.R_after (ok := (fun k_ => ((P1_0_ k_ ∨ P1_1_ k_) ∨ w.heap.size ≤ k_) ∧ some k_ ≠ (.slice (some ad595) t585.length co46 : Value).ownBlock)) (ro (Kd.R_mono HO_8.out (fun _ hk => ⟨⟨hk.1, hk.2.2⟩, hk.2.1⟩))) hg hat); replace HO_9 := Aside0.mk (Kd.R_after (ok := (fun k_ => ((P1_0_ k_ ∨ P1_1_ k_) ∨ w.heap.size ≤ k_) ∧ some k_ ≠ (v583 : Value).ownBlock)) (ro (Kd.R_mono HO_9.out (fun _ hk => ⟨⟨hk.1, hk.2.2⟩, hk.2.1⟩))) hg hat); replace HB := Aside0.mk (hb); replace HK := Aside0.mk (Kept.of_grown (S := (fun k_ => P1_0_ k_ ∨ P1_1_ k_)) hg (by repeat (first | (with_reducible first | exact HK.out | apply Kept.alloc | apply Kept.drewN | apply Kept.drew) | exact HK.out)) (fun k_ e_ => (HO_5.out.1 k_ e_).1)); clear HO_5; clear ho hb hg hat))
                    go_roundg k5
                    case measure => have := HJ2.out; have := HJ16.out; have := HJ25.out; have := HK4.out; have := HK5.out; omega
                    case rel => exact ⟨(y596), (wrap64 (x57_5 + 1)), rv, H', ⟨by have := HJ2.out; have := HJ16.out; have := HJ25.out; have := HK4.out; have := HK5.out; omega⟩, (ra HO598.out), (ra (Kd.R_mono HO_8.out (fun _ hk => ⟨hk.1.1, ⟨hk.2, hk.1.2⟩⟩))), (ra (Kd.R_mono HO_9.out (fun _ hk => ⟨hk.1.1, ⟨hk.2, hk.1.2⟩⟩))), ⟨by repeat (first | (with_reducible first | exact HK.out | apply Kept.alloc | apply Kept.drewN | apply Kept.drew) | exact HK.out)⟩, bh HB⟩
                   ·rw [if_neg c45] at H
                    exact absurd H (by simp)
                  ·rw [if_neg c44] at H
                   exact absurd H (by simp)
                 ·rw [if_neg c43] at H
                  exact absurd H (by simp)
                ·rw [if_neg c42] at H
                 obtain ⟨c42b0, c42b1⟩ := eqf c42
                 by_cases c48 : 0 ≤ x54_4
                 ·rw [if_pos c48] at H
                  have c48b0 := decide_eq_true c48
                  clear c48
                  by_cases c49 : x54_4 < (t585.length : Int)
                  ·rw [if_pos c49] at H
                   have c49b0 := decide_eq_true c49
                   clear c49
                   by_cases c50 : 0 ≤ x57_5
                   ·rw [if_pos c50] at H
                    have c50b0 := decide_eq_true c50
                    clear c50
                    by_cases c51 : x57_5 < (t582.length : Int)
                    ·rw [if_pos c51] at H
                     have c51b0 := decide_eq_true c51
                     clear c51
                     replace H := bnd H
                     obtain ⟨t601, A52, H⟩ := H
                     by_cases c53 : x5_5.length < 17592186044416
                     ·rw [if_pos c53] at H
                      have LMc53 := Aside0.mk c53
                      clear c53
                      obtain ⟨y602, hy602⟩ : ∃ y_ : List Int, y_ = (x5_5 ++ [t601]) := ⟨_, rfl⟩
                      replace H : (impl_GuessOf.l1 k5 a0 y602 x6_16 t582 t585 x10_25 x54_4 x54_4 (wrap64 (x57_5 + 1))) = some r := by subst hy602; exact H
                      have Ny602 := Aside0.mk hy602
                      clear hy602
                      have H' := Aside0.mk H
                      clear H
                      try go_wp2
                      replace HO_5 := Aside0.mk (Kd.R_drew HO_5.out)
                      replace HO_8 := Aside0.mk (Kd.R_drew HO_8.out)
                      replace HO_9 := Aside0.mk (Kd.R_drew HO_9.out)
                      replace HK := Aside0.mk (Kept.drew HK.out)
                      replace HB := Aside0.mk (below_drew1 HB.out)
                      obtain ⟨Ao55, co55, eo55⟩ := Kd.R_slice HO_9.out
                      (first | subst eo55 | (injection eo55 with f1_ f2_ f3_; have f4_ := f1_.symm; have f5_ := f3_.symm; clear f1_ f2_ f3_; subst f4_; subst f5_))
                      have p599 : 0 ≤ (x54_4 : Int) := od
                      have q599 : x54_4 < (t585.length : Int) := od
                      obtain ⟨ad599, e599, hx599_0⟩ := Kd.at_int (Kd.R_reads' HO_9.out).2.2 x54_4 p599 q599
                      cases e599
                      replace p599 := eq_true p599
                      replace q599 := eq_true q599
                      obtain ⟨Ao56, co56, eo56⟩ := Kd.R_slice HO_8.out
                      (first | subst eo56 | (injection eo56 with f1_ f2_ f3_; have f4_ := f1_.symm; have f5_ := f3_.symm; clear f1_ f2_ f3_; subst f4_; subst f5_))
                      have p600 : 0 ≤ (x57_5 : Int) := od
                      have q600 : x57_5 < (t582.length : Int) := od
                      obtain ⟨ad600, e600, hx600_0⟩ := Kd.at_int (Kd.R_reads' HO_8.out).2.2 x57_5 p600 q600
                      cases e600
                      replace p600 := eq_true p600
                      replace q600 := eq_true q600
                      refine start_ (n := 16) (S := fun w' => w'.cell? (ad599.add (x54_4).toNat) = some (.int .i64 (rd t585 x54_4)) ∧ w'.cell? (ad600.add (x57_5).toNat) = some (.int .i64 (rd t582 x57_5))) (ds := [13, 14]) (ba 16 0) (by kernel_rfl) rfl rfl ⟨hx599_0, hx600_0⟩ (fun hHeld => ?_); refine with_tabW impl_GuessOf.tab18 impl_GuessOf.bits18 (fun HT_ HW_ => ?_)
                      generalize wr.drew = w54 at HO_5 HO_8 HO_9 HK HB hx599_0 hx600_0 hHeld ⊢
                      refine pu 0 61 (ba 16 1) ?_
                      refine pu 1 62 (ba 16 3) ?_
                      refine pu 2 63 (ba 16 7) ?_
                      refine pu 3 64 (ba 16 15) ?_
                      refine pu 5 66 (ba 16 47) ?_
                      refine pu 6 67 (ba 16 111) ?_
                      refine pu 7 68 (ba 16 239) ?_
                      refine pu 10 71 (ba 16 1263) ?_
                      refine tk 4 65 (ba 16 1279) hHeld ?_
                      refine tk 8 69 (ba 16 1535) hHeld ?_
                      refine pu 9 70 (ba 16 2047) ?_
                      refine pu 11 72 (ba 16 4095) ?_
                      refine on 12 73 (ba 16 8191) (fun K hK => ?_)
                      refine gS Try.func88 #[.int .i64 (wrap64 ((wrap64 ((rd t585 x54_4) + (rd t582 x57_5))) - x10_25)), .int .i64 0, .int .i64 255] ?_
                      with_reducible refine (impl_Brought.calls (wrap64 ((wrap64 ((rd t585 x54_4) + (rd t582 x57_5))) - x10_25)) 0 255 t601 _ A52.out).mono ?_
                      rintro e w57 ⟨rfl, hb⟩
                      have HS0_ := (hb.cell (World.block_lt_of_cell? _ _ (hHeld.1))).trans (hHeld.1)
                      have HS1_ := (hb.cell (World.block_lt_of_cell? _ _ (hHeld.2))).trans (hHeld.2)
                      refine ⟨_, rfl, ?_⟩
                      replace HO_5 := Aside0.mk (Kd.R_below (ro HO_5.out) hb)
                      replace HO_8 := Aside0.mk (Kd.R_below (ro HO_8.out) hb)
                      replace HO_9 := Aside0.mk (Kd.R_below (ro HO_9.out) hb)
                      replace HK := Aside0.mk (Kept.below (S := (fun k_ => P1_0_ k_ ∨ P1_1_ k_)) (by repeat (first | (with_reducible first | exact HK.out | apply Kept.alloc | apply Kept.drewN | apply Kept.drew) | exact HK.out)) hb)
                      replace HB := bs HB hb
                      (try clear hb)
                      (try clear hb2)
                      (try clear hk)
                      (try clear hi)
                      refine hK.out _ _ ⟨HS0_, HS1_⟩ (fun hHeld => ?_)
                      clear hK K
                      refine nm ?_
                      refine last_ (i := 13) (N := some 74) (ba 16 16383) rfl rfl (one_of HT_.out (by kernel_rfl)) (by decide) (fun K hK => ?_)
                      refine value_ (w1 := ?_) (v := ?_) (by rfl) rfl ?_ ?_
                      rotate_left 2
                      ·go_simp
                       constructor
                       ·rfl
                       ·rfl
                      refine hK.out _ _ ?_
                      clear hK K
                      refine nm ?_
                      refine last_ (i := 14) (N := some 75) (ba 16 32767) rfl rfl (one_of HT_.out (by kernel_rfl)) (by decide) (fun K hK => ?_)
                      refine Kd.R_append_step (Kd.int .i64) (w0 := w0) w0.heap.size (by rfl) (.tmp 61) (.tmp 74) 35 3 (.int .i64 0) 8 rfl Try.underlying35 info3 rfl (by decide) (by omega) u5 x5_5 t601 [.int .i64 t601] (fun k_ => ((P1_0_ k_ ∨ P1_1_ k_) ∨ w.heap.size ≤ k_) ∧ some k_ ≠ (.slice (some ad600) t582.length co56 : Value).ownBlock ∧ some k_ ≠ (.slice (some ad599) t585.length co55 : Value).ownBlock) (fun _ => False) rfl rfl ?aP (fun _ hk => hk.elim) ?aF ?aO ?aB ?aS ?aL ?_
                      (case aP => exact rfl)
                      (case aB => exact (bo HB))
                      (case aF => exact (fun k_ hk => ⟨(.inr (Nat.le_trans (by first | exact HK.out.1 | exact (show Kept w _ (fun k_ => P1_0_ k_ ∨ P1_1_ k_) from by repeat (first | (with_reducible first | exact HK.out | apply Kept.alloc | apply Kept.drewN | apply Kept.drew) | exact HK.out)).1) hk)), Kd.fresh' (Kd.R_lt (ro HO_8.out)) k_ hk, Kd.fresh' (Kd.R_lt (ro HO_9.out)) k_ hk⟩))
                      (case aO => exact (ro HO_5.out))
                      (case aS => exact (below_size (bo HB)))
                      (case aL => have := LMc53.out; omega)
                      intro v603 w58 ho hb hg hat
                      rw [← Ny602.out] at ho
                      have HO604 := Aside0.mk (ho)
                      replace HO_8 := Aside0.mk (Kd.R_after (ok := (fun k_ => ((P1_0_ k_ ∨ P1_1_ k_) ∨ w.heap.size ≤ k_) ∧ some k_ ≠ (.slice (some ad599) t585.length co55 : Value).ownBlock)) (ro (Kd.R_mono HO_8.out (fun _ hk => ⟨⟨hk.1, hk.2.2⟩, hk.2.1⟩))) hg hat)
                      replace HO_9 := Aside0.mk (Kd.R_after (ok := (fun k_ => ((P1_0_ k_ ∨ P1_1_ k_) ∨ w.heap.size ≤ k_) ∧ some k_ ≠ (.slice (some ad600) t582.length co56 : Value).ownBlock)) (ro (Kd.R_mono HO_9.out (fun _ hk => ⟨⟨hk.1, hk.2.2⟩, hk.2.1⟩))) hg hat)
                      replace HB := Aside0.mk (hb)
                      replace HK := Aside0.mk (Kept.of_grown (S := (fun k_ => P1_0_ k_ ∨ P1_1_ k_)) hg (by repeat (first | (with_reducible first | exact HK.out | apply Kept.alloc | apply Kept.drewN | apply Kept.drew) | exact HK.out)) (fun k_ e_ => (HO_5.out.1 k_ e_).1))
                      clear HO_5
                      clear ho hb hg hat
                      refine hK.out _ _ ?_
                      clear hK K
                      refine nm ?_
                      refine pu 15 5 (ba 16 65535) ?_
                      refine done_ (done_of HT_.out (by kernel_rfl)) ?_
                      try go_wp2
                      go_roundg k5
                      case measure => have := HJ2.out; have := HJ16.out; have := HJ25.out; have := HK4.out; have := HK5.out; omega
                      case rel => exact ⟨(y602), (wrap64 (x57_5 + 1)), rv, H', ⟨by have := HJ2.out; have := HJ16.out; have := HJ25.out; have := HK4.out; have := HK5.out; omega⟩, (ra HO604.out), (ra (Kd.R_mono HO_8.out (fun _ hk => ⟨hk.1.1, ⟨hk.2, hk.1.2⟩⟩))), (ra (Kd.R_mono HO_9.out (fun _ hk => ⟨hk.1.1, ⟨hk.2, hk.1.2⟩⟩))), ⟨by repeat (first | (with_reducible first | exact HK.out | apply Kept.alloc | apply Kept.drewN | apply Kept.drew) | exact HK.out)⟩, bh HB⟩
                     ·rw [if_neg c53] at H
                      exact absurd H (by simp)
                    ·rw [if_neg c51] at H
                     exact absurd H (by simp)
                   ·rw [if_neg c50] at H
                    exact absurd H (by simp)
                  ·rw [if_neg c49] at H
                   exact absurd H (by simp)
                 ·rw [if_neg c48] at H
                  exact absurd H (by simp)
             ·rw [if_neg c32] at H
              have c32b0 := decide_eq_false c32
              clear c32
              have H' := Aside0.mk H
              clear H
              go_wp2
              go_roundg k5
              case measure => have := HJ2.out; have := HJ16.out; have := HJ25.out; have := HK4.out; have := HK5.out; omega
              case rel => exact ⟨(x5_5), (wrap64 (x54_4 + 1)), rv, H', ⟨by have := HJ2.out; have := HJ16.out; have := HJ25.out; have := HK4.out; have := HK5.out; omega⟩, (ra HO_5.out), (ra HO_8.out), (ra HO_9.out), ⟨by repeat (first | (with_reducible first | exact HK.out | apply Kept.alloc | apply Kept.drewN | apply Kept.drew) | exact HK.out)⟩, bh HB⟩
          ·rw [if_neg c31] at H
           have c31b0 := decide_eq_false c31
           clear c31
           obtain rfl := Option.some.inj H
           go_wp2
           go_ret
           exact ⟨_, re, ro (Kd.R_mono HO_5.out (fun _ hk => hk.1)), by repeat (first | (with_reducible first | exact HB.out | apply below_alloc | apply pw_below_drewN | apply below_drew1) | exact HB.out), by repeat (first | (with_reducible first | exact HK.out | apply Kept.alloc | apply Kept.drewN | apply Kept.drew) | exact HK.out)⟩

end Go.Proofs.Ytnaccgommclhaaa.QFnExactSquareDots
