/- What the law reaches, as plain functions, each with the proof that its call comes to its answer: written by a program for this claim. -/
import Derived.Test.YtlmlkoalicjlhaaQFnTileRowsx0
import Derived.Test.YtlmlkoalicjlhaaQFnTileRowsx1
import Derived.Test.YtlmlkoalicjlhaaQFnTileRowsx6
import Derived.Test.YtlmlkoalicjlhaaQFnTileRowsx7
import Derived.Test.YtlmlkoalicjlhaaQFnTileRowsx8
namespace Go.Proofs.Ytlmlkoalicjlhaa.QFnTileRows
open Go.RowKit Go.Proofs.YtlmlkoalicjlhaaW.PrintWords Go.Proofs.YtlmlkoalicjlhaaW.PrintLast Go.Proofs.YtlmlkoalicjlhaaW.PrintMore Go.Proofs.YtlmlkoalicjlhaaV
attribute [local go_sem] max2_int min2_int max_two min_two max_three min_three max_four min_four   -- for this text's walks alone
set_option linter.unusedVariables false
set_option linter.unusedSimpArgs false

def impl_scan_square.j0 : Nat → ByteArray → Int → Bool → Bool → Int → Bool → Bool → Int → Int → Int → Int → Option (Int × Int × Int × Int × List Int × ByteArray × Int × Bool)
 | 0, _, _, _, _, _, _, _, _, _, _, _ => none
 | k + 1, x1000, x1001, x1002, x422000, x422001, x422002, x422003, x424000, x424001, x424002, x424003 => if x1002 = true then (some (x424000, x424001, x424002, x424003, ([] : List Int), x1000, x1001, true)) else (if x424000 = 1 then ((impl_scan_se.f k x1000 x1001 x1002).bind fun bt428 => ((impl_scan_se.f k bt428.2.1 bt428.2.2.1 bt428.2.2.2).bind fun bt432 => ((impl_scan_levels.f k bt432.2.1 bt432.2.2.1 bt432.2.2.2 x422000 x422001 x422002 x422003).bind fun bt436 => (if bt436.2.2.2 = true then (some (x424000, x424001, bt428.1, bt432.1, bt436.1, bt436.2.1, bt436.2.2.1, true)) else ((impl_SquareOk.f k x424000 x424001 bt428.1 bt432.1 bt436.1).bind fun t442 => (some (x424000, x424001, bt428.1, bt432.1, bt436.1, bt436.2.1, bt436.2.2.1, !t442))))))) else (if x424000 = 2 then ((impl_scan_ue.f k x1000 x1001 x1002).bind fun bt443 => ((impl_scan_levels.f k bt443.2.1 bt443.2.2.1 bt443.2.2.2 x422000 x422001 x422002 x422003).bind fun bt447 => (if bt447.2.2.2 = true then (some (x424000, bt443.1, x424002, x424003, bt447.1, bt447.2.1, bt447.2.2.1, true)) else ((impl_SquareOk.f k x424000 bt443.1 x424002 x424003 bt447.1).bind fun t453 => (some (x424000, bt443.1, x424002, x424003, bt447.1, bt447.2.1, bt447.2.2.1, !t453)))))) else ((impl_SquareOk.f k x424000 x424001 x424002 x424003 ([] : List Int)).bind fun t454 => (some (x424000, x424001, x424002, x424003, ([] : List Int), x1000, x1001, !t454)))))
def impl_scan_square.f (k : Nat) (s0_0 : ByteArray) (s0_1 : Int) (s0_2 : Bool) (a1_0 : Bool) (a1_1 : Int) (a1_2 : Bool) (a1_3 : Bool) : Option (Int × Int × Int × Int × List Int × ByteArray × Int × Bool) := if a1_0 = true then (impl_scan_square.j0 k s0_0 s0_1 s0_2 a1_0 a1_1 a1_2 a1_3 2 0 0 0) else ((impl_scan_ue.f k s0_0 s0_1 s0_2).bind fun bt424 => (impl_scan_square.j0 k bt424.2.1 bt424.2.2.1 bt424.2.2.2 a1_0 a1_1 a1_2 a1_3 bt424.1 0 0 0))
theorem impl_scan_square.mono_l : ∀ k, (∀ y0 y1 y2 y3 y4 y5 y6 y7 y8 y9 y10, LeO (impl_scan_square.j0 k y0 y1 y2 y3 y4 y5 y6 y7 y8 y9 y10) (impl_scan_square.j0 (k + 1) y0 y1 y2 y3 y4 y5 y6 y7 y8 y9 y10))
 | 0 => fun _ _ _ _ _ _ _ _ _ _ _ r h => by simp [impl_scan_square.j0] at h
 | k + 1 => by
  have ih0 := impl_scan_square.mono_l k
  ·intro y0 y1 y2 y3 y4 y5 y6 y7 y8 y9 y10
   unfold impl_scan_square.j0
   repeat' first
   | (with_reducible exact ih0 _ _ _ _ _ _ _ _ _ _ _)
   | (with_reducible exact impl_SquareOk.mono _ _ _ _ _ _)
   | (with_reducible exact impl_scan_levels.mono _ _ _ _ _ _ _ _)
   | (with_reducible exact impl_scan_se.mono _ _ _ _)
   | (with_reducible exact impl_scan_ue.mono _ _ _ _)
   | (with_reducible exact LeO.refl _)
   | (with_reducible exact LeO.none _)
   | (with_reducible refine LeO.ite ?_ ?_)
   | (with_reducible refine LeO.bind ?_ (fun _ => ?_))
   | exact ih0 _ _ _ _ _ _ _ _ _ _ _
   | exact impl_SquareOk.mono _ _ _ _ _ _
   | exact impl_scan_levels.mono _ _ _ _ _ _ _ _
   | exact impl_scan_se.mono _ _ _ _
   | exact impl_scan_ue.mono _ _ _ _
   | exact LeO.none _
   | refine LeO.ite ?_ ?_
   | refine LeO.bind ?_ (fun _ => ?_)
theorem impl_scan_square.mono : ∀ a0 a1 a2 a3 a4 a5 a6 k, LeO (impl_scan_square.f k a0 a1 a2 a3 a4 a5 a6) (impl_scan_square.f (k + 1) a0 a1 a2 a3 a4 a5 a6) := by
 intro a0 a1 a2 a3 a4 a5 a6 k
 have ih0 := impl_scan_square.mono_l k
 unfold impl_scan_square.f
 repeat' first
   | (with_reducible exact ih0 _ _ _ _ _ _ _ _ _ _ _)
   | (with_reducible exact impl_SquareOk.mono _ _ _ _ _ _)
   | (with_reducible exact impl_scan_levels.mono _ _ _ _ _ _ _ _)
   | (with_reducible exact impl_scan_se.mono _ _ _ _)
   | (with_reducible exact impl_scan_ue.mono _ _ _ _)
   | (with_reducible exact LeO.refl _)
   | (with_reducible exact LeO.none _)
   | (with_reducible refine LeO.ite ?_ ?_)
   | (with_reducible refine LeO.bind ?_ (fun _ => ?_))
   | exact ih0 _ _ _ _ _ _ _ _ _ _ _
   | exact impl_SquareOk.mono _ _ _ _ _ _
   | exact impl_scan_levels.mono _ _ _ _ _ _ _ _
   | exact impl_scan_se.mono _ _ _ _
   | exact impl_scan_ue.mono _ _ _ _
   | exact LeO.none _
   | refine LeO.ite ?_ ?_
   | refine LeO.bind ?_ (fun _ => ?_)
set_option maxHeartbeats 8000000 in
set_option maxRecDepth 100000 in
theorem impl_scan_square.calls (k : Nat) (g : Nat) (s0_0 : ByteArray) (s0_1 : Int) (s0_2 : Bool) (a1_0 : Bool) (a1_1 : Int) (a1_2 : Bool) (a1_3 : Bool) (r1 : Int) (r2 : Int) (r3 : Int) (r4 : Int) (r5 : List Int) (r6 : ByteArray) (r7 : Int) (r8 : Bool) (w0 w : World) (hI : IsS94 w0 w g s0_0 s0_1 s0_2) (hB : Below w0.heap.size w0 w) (h : impl_scan_square.f k s0_0 s0_1 s0_2 a1_0 a1_1 a1_2 a1_3 = some (r1, r2, r3, r4, r5, r6, r7, r8)) :
  Calls Try.prog 85 #[.pointer (some ⟨g, 0, none⟩), .agg #[.bool a1_0, .int .i64 a1_1, .bool a1_2, .bool a1_3]] w fun e w' => ∃ v4_ : Value, e = .returned (.agg #[.int .i64 r1, .int .i64 r2, .int .i64 r3, .int .i64 r4, v4_]) ∧ Kd.R (Kd.int .i64) 3 w' w.heap.size (fun _ => True) v4_ r5 ∧ IsS94 w0 w' g r6 r7 r8 ∧ Below w0.heap.size w0 w' ∧ KeepBut w w' g none := by
 have hu40 := Try.underlying40
 have hu50 := Try.underlying50
 have HI0 := Aside0.mk hI
 have HK := Aside0.mk (KeepBut.refl w g none)
 have HL := Aside0.mk hB.size
 clear hI
 have HW0 := Aside0.mk hB.size
 have HB := Aside0.mk hB
 clear hB
 have H : (if a1_0 = true then (impl_scan_square.j0 k s0_0 s0_1 s0_2 a1_0 a1_1 a1_2 a1_3 2 0 0 0) else ((impl_scan_ue.f k s0_0 s0_1 s0_2).bind fun bt424 => (impl_scan_square.j0 k bt424.2.1 bt424.2.2.1 bt424.2.2.2 a1_0 a1_1 a1_2 a1_3 bt424.1 0 0 0))) = some (r1, r2, r3, r4, r5, r6, r7, r8) := h
 clear h
 have HC3 := Aside0.mk H
 clear H
 go_enter Try.func85, Try.ntmps85
 go_upto_if 9 with (first | ((with_reducible refine gate_dst (N := 3) rfl ?_); refine box_event ?hg (N := 3) ?hd (cs := #[.bool a1_0, .int .i64 a1_1, .bool a1_2, .bool a1_3]) (t := 40) ?hr ?_; (case hd => rfl); (case hg => rfl); (case hr => first | (go_simp; done) | (go_simp; rfl)); intro gb421 hg w4 hbox hb; have n0_ := Aside0.mk (IsS94.below (by repeat (first | (with_reducible first | exact HI0.out | apply IsS94.alloc | apply IsS94.drewN | apply IsS94.drew | apply IsS94.set_0 | apply IsS94.set_1 | apply IsS94.set_2) | exact HI0.out)) hb); have n1_ := Aside0.mk (KeepBut.trans (by repeat (first | (with_reducible first | exact HK.out | apply KeepBut.set_ | apply keep_drewN | apply keep_drew | apply keep_alloc) | exact HK.out)) (KeepBut.of_below hb g none) (.inl rfl)); have n2_ := Aside0.mk (below_step (by repeat (first | (with_reducible first | exact HB.out | apply below_alloc | apply pw_below_drewN | apply below_drew1 | refine below_set ?_ (IsS94.ge HI0.out)) | exact HB.out)) hb); have n3_ := Aside0.mk (hbox); have n4_ := Aside0.mk ((by rw [hg]; exact (keep_size (w := w) (g := g) (row := none) (by repeat (first | (with_reducible first | exact HK.out | apply KeepBut.set_ | apply keep_drewN | apply keep_drew | apply keep_alloc) | exact HK.out))) : w.heap.size ≤ gb421)); have n5_ := Aside0.mk ((Nat.le_trans HW0.out (by rw [hg]; exact (keep_size (w := w) (g := g) (row := none) (by repeat (first | (with_reducible first | exact HK.out | apply KeepBut.set_ | apply keep_drewN | apply keep_drew | apply keep_alloc) | exact HK.out))) : w.heap.size ≤ gb421) : w0.heap.size ≤ gb421)); have n6_ := Aside0.mk ((by rw [hg]; exact Nat.ne_of_lt (IsS94.lt (show IsS94 w0 _ g s0_0 s0_1 s0_2 from by repeat (first | (with_reducible first | exact HI0.out | apply IsS94.alloc | apply IsS94.drewN | apply IsS94.drew | apply IsS94.set_0 | apply IsS94.set_1 | apply IsS94.set_2) | exact HI0.out))) : g ≠ gb421)); have n7_ := Aside0.mk ((by rw [hg]; exact Nat.ne_of_gt (IsS94.lt (show IsS94 w0 _ g s0_0 s0_1 s0_2 from by repeat (first | (with_reducible first | exact HI0.out | apply IsS94.alloc | apply IsS94.drewN | apply IsS94.drew | apply IsS94.set_0 | apply IsS94.set_1 | apply IsS94.set_2) | exact HI0.out))) : gb421 ≠ g)); clear HI0; clear HK; clear HB; have HI0 := n0_; have HK := n1_; have HB := n2_; have BK421 := n3_; have GW421 := n4_; have GE421 := n5_; have NB0_421 := n6_; have NB421_0 := n7_; clear n0_ n1_ n2_ n3_ n4_ n5_ n6_ n7_; clear hb hbox hg) | ((with_reducible refine gate_dst (N := 4) rfl ?_); refine box_event ?hg (N := 4) ?hd (cs := #[.int .i64 0, .int .i64 0, .int .i64 0, .int .i64 0, .slice none 0 0]) (t := 50) ?hr ?_; (case hd => rfl); (case hg => rfl); (case hr => first | (go_simp; done) | (go_simp; rfl)); intro gb422 hg w5 hbox hb; have n0_ := Aside0.mk (IsS94.below (by repeat (first | (with_reducible first | exact HI0.out | apply IsS94.alloc | apply IsS94.drewN | apply IsS94.drew | apply IsS94.set_0 | apply IsS94.set_1 | apply IsS94.set_2 | refine IsS94.far ?_ NB0_421.out _) | exact HI0.out)) hb); have n1_ := Aside0.mk (blk_below (g := gb421) (o := .cells #[.bool a1_0, .int .i64 a1_1, .bool a1_2, .bool a1_3] 40 (0, 0)) (by (with_reducible repeat (first | refine blk_drewN ?_ _ | refine blk_drew ?_ | refine blk_alloc ?_ _)); exact BK421.out) hb); have n2_ := Aside0.mk (KeepBut.trans (by repeat (first | (with_reducible first | exact HK.out | apply KeepBut.set_ | apply keep_drewN | apply keep_drew | apply keep_alloc | refine keep_far ?_ GW421.out _) | exact HK.out)) (KeepBut.of_below hb g none) (.inl rfl)); have n3_ := Aside0.mk (below_step (by repeat (first | (with_reducible first | exact HB.out | apply below_alloc | apply pw_below_drewN | apply below_drew1 | refine below_set ?_ (IsS94.ge HI0.out) | refine below_set ?_ GE421.out) | exact HB.out)) hb); have n4_ := Aside0.mk (hbox); have n5_ := Aside0.mk ((by rw [hg]; exact (keep_size (w := w) (g := g) (row := none) (by repeat (first | (with_reducible first | exact HK.out | apply KeepBut.set_ | apply keep_drewN | apply keep_drew | apply keep_alloc | refine keep_far ?_ GW421.out _) | exact HK.out))) : w.heap.size ≤ gb422)); have n6_ := Aside0.mk ((Nat.le_trans HW0.out (by rw [hg]; exact (keep_size (w := w) (g := g) (row := none) (by repeat (first | (with_reducible first | exact HK.out | apply KeepBut.set_ | apply keep_drewN | apply keep_drew | apply keep_alloc | refine keep_far ?_ GW421.out _) | exact HK.out))) : w.heap.size ≤ gb422) : w0.heap.size ≤ gb422)); have n7_ := Aside0.mk ((by rw [hg]; exact Nat.ne_of_lt (blk_lt (g := gb421) (o := .cells #[.bool a1_0, .int .i64 a1_1, .bool a1_2, .bool a1_3] 40 (0, 0)) (by (with_reducible repeat (first | refine blk_drewN ?_ _ | refine blk_drew ?_ | refine blk_alloc ?_ _)); exact BK421.out)) : gb421 ≠ gb422)); have n8_ := Aside0.mk ((by rw [hg]; exact Nat.ne_of_gt (blk_lt (g := gb421) (o := .cells #[.bool a1_0, .int .i64 a1_1, .bool a1_2, .bool a1_3] 40 (0, 0)) (by (with_reducible repeat (first | refine blk_drewN ?_ _ | refine blk_drew ?_ | refine blk_alloc ?_ _)); exact BK421.out)) : gb422 ≠ gb421)); have n9_ := Aside0.mk ((by rw [hg]; exact Nat.ne_of_lt (IsS94.lt (show IsS94 w0 _ g s0_0 s0_1 s0_2 from by repeat (first | (with_reducible first | exact HI0.out | apply IsS94.alloc | apply IsS94.drewN | apply IsS94.drew | apply IsS94.set_0 | apply IsS94.set_1 | apply IsS94.set_2 | refine IsS94.far ?_ NB0_421.out _) | exact HI0.out))) : g ≠ gb422)); have n10_ := Aside0.mk ((by rw [hg]; exact Nat.ne_of_gt (IsS94.lt (show IsS94 w0 _ g s0_0 s0_1 s0_2 from by repeat (first | (with_reducible first | exact HI0.out | apply IsS94.alloc | apply IsS94.drewN | apply IsS94.drew | apply IsS94.set_0 | apply IsS94.set_1 | apply IsS94.set_2 | refine IsS94.far ?_ NB0_421.out _) | exact HI0.out))) : gb422 ≠ g)); clear HI0; clear BK421; clear HK; clear HB; have HI0 := n0_; have BK421 := n1_; have HK := n2_; have HB := n3_; have BK422 := n4_; have GW422 := n5_; have GE422 := n6_; have NB421_422 := n7_; have NB422_421 := n8_; have NB0_422 := n9_; have NB422_0 := n10_; clear n0_ n1_ n2_ n3_ n4_ n5_ n6_ n7_ n8_ n9_ n10_; clear hb hbox hg) | ((with_reducible refine gate_dst (N := 5) rfl ?_); refine box_event ?hg (N := 5) ?hd (cs := #[.int .i64 0, .int .i64 0, .int .i64 0, .int .i64 0, .slice none 0 0]) (t := 50) ?hr ?_; (case hd => rfl); (case hg => rfl); (case hr => first | (go_simp; done) | (go_simp; rfl)); intro gb423 hg w6 hbox hb; have n0_ := Aside0.mk (IsS94.below (by repeat (first | (with_reducible first | exact HI0.out | apply IsS94.alloc | apply IsS94.drewN | apply IsS94.drew | apply IsS94.set_0 | apply IsS94.set_1 | apply IsS94.set_2 | refine IsS94.far ?_ NB0_421.out _ | refine IsS94.far ?_ NB0_422.out _) | exact HI0.out)) hb); have n1_ := Aside0.mk (blk_below (g := gb421) (o := .cells #[.bool a1_0, .int .i64 a1_1, .bool a1_2, .bool a1_3] 40 (0, 0)) (by (with_reducible repeat (first | refine blk_drewN ?_ _ | refine blk_drew ?_ | refine blk_alloc ?_ _)); exact BK421.out) hb); have n2_ := Aside0.mk (blk_below (g := gb422) (o := .cells #[.int .i64 0, .int .i64 0, .int .i64 0, .int .i64 0, .slice none 0 0] 50 (0, 0)) (by (with_reducible repeat (first | refine blk_drewN ?_ _ | refine blk_drew ?_ | refine blk_alloc ?_ _)); exact BK422.out) hb); have n3_ := Aside0.mk (KeepBut.trans (by repeat (first | (with_reducible first | exact HK.out | apply KeepBut.set_ | apply keep_drewN | apply keep_drew | apply keep_alloc | refine keep_far ?_ GW421.out _ | refine keep_far ?_ GW422.out _) | exact HK.out)) (KeepBut.of_below hb g none) (.inl rfl)); have n4_ := Aside0.mk (below_step (by repeat (first | (with_reducible first | exact HB.out | apply below_alloc | apply pw_below_drewN | apply below_drew1 | refine below_set ?_ (IsS94.ge HI0.out) | refine below_set ?_ GE421.out | refine below_set ?_ GE422.out) | exact HB.out)) hb); have n5_ := Aside0.mk (hbox); have n6_ := Aside0.mk ((by rw [hg]; exact (keep_size (w := w) (g := g) (row := none) (by repeat (first | (with_reducible first | exact HK.out | apply KeepBut.set_ | apply keep_drewN | apply keep_drew | apply keep_alloc | refine keep_far ?_ GW421.out _ | refine keep_far ?_ GW422.out _) | exact HK.out))) : w.heap.size ≤ gb423)); have n7_ := Aside0.mk ((Nat.le_trans HW0.out (by rw [hg]; exact (keep_size (w := w) (g := g) (row := none) (by repeat (first | (with_reducible first | exact HK.out | apply KeepBut.set_ | apply keep_drewN | apply keep_drew | apply keep_alloc | refine keep_far ?_ GW421.out _ | refine keep_far ?_ GW422.out _) | exact HK.out))) : w.heap.size ≤ gb423) : w0.heap.size ≤ gb423)); have n8_ := Aside0.mk ((by rw [hg]; exact Nat.ne_of_lt (blk_lt (g := gb421) (o := .cells #[.bool a1_0, .int .i64 a1_1, .bool a1_2, .bool a1_3] 40 (0, 0)) (by (with_reducible repeat (first | refine blk_drewN ?_ _ | refine blk_drew ?_ | refine blk_alloc ?_ _)); exact BK421.out)) : gb421 ≠ gb423)); have n9_ := Aside0.mk ((by rw [hg]; exact Nat.ne_of_gt (blk_lt (g := gb421) (o := .cells #[.bool a1_0, .int .i64 a1_1, .bool a1_2, .bool a1_3] 40 (0, 0)) (by (with_reducible repeat (first | refine blk_drewN ?_ _ | refine blk_drew ?_ | refine blk_alloc ?_ _)); exact BK421.out)) : gb423 ≠ gb421)); have n10_ := Aside0.mk ((by rw [hg]; exact Nat.ne_of_lt (blk_lt (g := gb422) (o := .cells #[.int .i64 0, .int .i64 0, .int .i64 0, .int .i64 0, .slice none 0 0] 50 (0, 0)) (by (with_reducible repeat (first | refine blk_drewN ?_ _ | refine blk_drew ?_ | refine blk_alloc ?_ _)); exact BK422.out)) : gb422 ≠ gb423)); have n11_ := Aside0.mk ((by rw [hg]; exact Nat.ne_of_gt (blk_lt (g := gb422) (o := .cells #[.int .i64 0, .int .i64 0, .int .i64 0, .int .i64 0, .slice none 0 0] 50 (0, 0)) (by (with_reducible repeat (first | refine blk_drewN ?_ _ | refine blk_drew ?_ | refine blk_alloc ?_ _)); exact BK422.out)) : gb423 ≠ gb422)); have n12_ := Aside0.mk ((by rw [hg]; exact Nat.ne_of_lt (IsS94.lt (show IsS94 w0 _ g s0_0 s0_1 s0_2 from by repeat (first | (with_reducible first | exact HI0.out | apply IsS94.alloc | apply IsS94.drewN | apply IsS94.drew | apply IsS94.set_0 | apply IsS94.set_1 | apply IsS94.set_2 | refine IsS94.far ?_ NB0_421.out _ | refine IsS94.far ?_ NB0_422.out _) | exact HI0.out))) : g ≠ gb423)); have n13_ := Aside0.mk ((by rw [hg]; exact Nat.ne_of_gt (IsS94.lt (show IsS94 w0 _ g s0_0 s0_1 s0_2 from by repeat (first | (with_reducible first | exact HI0.out | apply IsS94.alloc | apply IsS94.drewN | apply IsS94.drew | apply IsS94.set_0 | apply IsS94.set_1 | apply IsS94.set_2 | refine IsS94.far ?_ NB0_421.out _ | refine IsS94.far ?_ NB0_422.out _) | exact HI0.out))) : gb423 ≠ g)); clear HI0; clear BK421; clear BK422; clear HK; clear HB; have HI0 := n0_; have BK421 := n1_; have BK422 := n2_; have HK := n3_; have HB := n4_; have BK423 := n5_; have GW423 := n6_; have GE423 := n7_; have NB421_423 := n8_; have NB423_421 := n9_; have NB422_423 := n10_; have NB423_422 := n11_; have NB0_423 := n12_; have NB423_0 := n13_; clear n0_ n1_ n2_ n3_ n4_ n5_ n6_ n7_ n8_ n9_ n10_ n11_ n12_ n13_; clear hb hbox hg; have hnb7 := NB423_421.out; have hnc7 := NB421_423.out; have hnb8 := NB423_422.out; have hnc8 := NB422_423.out; have hnb9 := NB423_0.out; have hnc9 := NB0_423.out; have hcz10_0 : w6.cell? ⟨gb423, 0, none⟩ = some (.int .i64 0) := (blk_cell BK423.out 0).trans rfl; have hcz10_1 : w6.cell? ⟨gb423, 1, none⟩ = some (.int .i64 0) := (blk_cell BK423.out 1).trans rfl; have hcz10_2 : w6.cell? ⟨gb423, 2, none⟩ = some (.int .i64 0) := (blk_cell BK423.out 2).trans rfl; have hcz10_3 : w6.cell? ⟨gb423, 3, none⟩ = some (.int .i64 0) := (blk_cell BK423.out 3).trans rfl; have hcz10_4 : w6.cell? ⟨gb423, 4, none⟩ = some (.slice none 0 0) := (blk_cell BK423.out 4).trans rfl; have hfz10_0 := blk_frozen BK423.out 0; have hfz10_1 := blk_frozen BK423.out 1; have hfz10_2 := blk_frozen BK423.out 2; have hfz10_3 := blk_frozen BK423.out 3; have hfz10_4 := blk_frozen BK423.out 4; have hnb11 := NB421_422.out; have hnc11 := NB422_421.out; have hnb12 := NB421_0.out; have hnc12 := NB0_421.out; have hcz13_0 : w6.cell? ⟨gb421, 0, none⟩ = some (.bool a1_0) := (blk_cell BK421.out 0).trans rfl; have hcz13_1 : w6.cell? ⟨gb421, 1, none⟩ = some (.int .i64 a1_1) := (blk_cell BK421.out 1).trans rfl; have hcz13_2 : w6.cell? ⟨gb421, 2, none⟩ = some (.bool a1_2) := (blk_cell BK421.out 2).trans rfl; have hcz13_3 : w6.cell? ⟨gb421, 3, none⟩ = some (.bool a1_3) := (blk_cell BK421.out 3).trans rfl; have hfz13_0 := blk_frozen BK421.out 0; have hfz13_1 := blk_frozen BK421.out 1; have hfz13_2 := blk_frozen BK421.out 2; have hfz13_3 := blk_frozen BK421.out 3))
 (try simp only [Act.put, List.setIfInBounds_toArray, List.set_cons_zero, List.set_cons_succ])
 go_cut [] (fun wc => ∃ (kq : Nat) (x1000_2 : ByteArray) (x1001_2 : Int) (x1002_2 : Bool) (x424000_2 : Int), Aside0 (impl_scan_square.j0 kq x1000_2 x1001_2 x1002_2 a1_0 a1_1 a1_2 a1_3 x424000_2 0 0 0 = some (r1, r2, r3, r4, r5, r6, r7, r8)) ∧ Aside0 (kq ≤ k) ∧ Aside0 (wc.heap[gb421]? = some (.cells #[.bool a1_0, .int .i64 a1_1, .bool a1_2, .bool a1_3] 40 (0, 0))) ∧ Aside0 (wc.heap[gb422]? = some (.cells #[.int .i64 0, .int .i64 0, .int .i64 0, .int .i64 0, (.slice none 0 0)] 50 (0, 0))) ∧ Aside0 (wc.heap[gb423]? = some (.cells #[.int .i64 x424000_2, .int .i64 0, .int .i64 0, .int .i64 0, (.slice none 0 0)] 50 (0, 0))) ∧ Aside0 (IsS94 w0 wc g x1000_2 x1001_2 x1002_2) ∧ Aside0 (KeepBut w wc g none) ∧ Aside0 (Below w0.heap.size w0 wc))
 case first =>
  have H := HC3.out
  clear HC3
  by_cases c14 : a1_0 = true
  ·subst c14
   have H1 : (impl_scan_square.j0 k s0_0 s0_1 s0_2 true a1_1 a1_2 a1_3 2 0 0 0) = some (r1, r2, r3, r4, r5, r6, r7, r8) := by rw [if_pos rfl] at H; exact H
   clear H
   have H := H1
   clear H1
   have H' := Aside0.mk H
   clear H
   go_wp2
   go_meet
   case rel => exact ⟨_, (s0_0), (s0_1), (s0_2), (2), H', ⟨by first | omega | exact Nat.le_refl _⟩, ⟨by (with_reducible repeat (first | refine blk_drewN ?_ _ | refine blk_drew ?_ | refine blk_alloc ?_ _)); refine blk_far ?_ NB421_423.out _; (with_reducible repeat (first | refine blk_drewN ?_ _ | refine blk_drew ?_ | refine blk_alloc ?_ _)); refine blk_far ?_ NB421_423.out _; (with_reducible repeat (first | refine blk_drewN ?_ _ | refine blk_drew ?_ | refine blk_alloc ?_ _)); refine blk_far ?_ NB421_423.out _; (with_reducible repeat (first | refine blk_drewN ?_ _ | refine blk_drew ?_ | refine blk_alloc ?_ _)); refine blk_far ?_ NB421_423.out _; (with_reducible repeat (first | refine blk_drewN ?_ _ | refine blk_drew ?_ | refine blk_alloc ?_ _)); refine blk_far ?_ NB421_423.out _; (with_reducible repeat (first | refine blk_drewN ?_ _ | refine blk_drew ?_ | refine blk_alloc ?_ _)); exact BK421.out⟩, ⟨by (with_reducible repeat (first | refine blk_drewN ?_ _ | refine blk_drew ?_ | refine blk_alloc ?_ _)); refine blk_far ?_ NB422_423.out _; (with_reducible repeat (first | refine blk_drewN ?_ _ | refine blk_drew ?_ | refine blk_alloc ?_ _)); refine blk_far ?_ NB422_423.out _; (with_reducible repeat (first | refine blk_drewN ?_ _ | refine blk_drew ?_ | refine blk_alloc ?_ _)); refine blk_far ?_ NB422_423.out _; (with_reducible repeat (first | refine blk_drewN ?_ _ | refine blk_drew ?_ | refine blk_alloc ?_ _)); refine blk_far ?_ NB422_423.out _; (with_reducible repeat (first | refine blk_drewN ?_ _ | refine blk_drew ?_ | refine blk_alloc ?_ _)); refine blk_far ?_ NB422_423.out _; (with_reducible repeat (first | refine blk_drewN ?_ _ | refine blk_drew ?_ | refine blk_alloc ?_ _)); exact BK422.out⟩, ⟨by (with_reducible repeat (first | refine blk_drewN ?_ _ | refine blk_drew ?_ | refine blk_alloc ?_ _)); refine blk_put (cs := #[.int .i64 2, .int .i64 0, .int .i64 0, .int .i64 0, .slice none 0 0]) ?_ 4 _ rfl; (with_reducible repeat (first | refine blk_drewN ?_ _ | refine blk_drew ?_ | refine blk_alloc ?_ _)); refine blk_put (cs := #[.int .i64 2, .int .i64 0, .int .i64 0, .int .i64 0, .slice none 0 0]) ?_ 3 _ rfl; (with_reducible repeat (first | refine blk_drewN ?_ _ | refine blk_drew ?_ | refine blk_alloc ?_ _)); refine blk_put (cs := #[.int .i64 2, .int .i64 0, .int .i64 0, .int .i64 0, .slice none 0 0]) ?_ 2 _ rfl; (with_reducible repeat (first | refine blk_drewN ?_ _ | refine blk_drew ?_ | refine blk_alloc ?_ _)); refine blk_put (cs := #[.int .i64 2, .int .i64 0, .int .i64 0, .int .i64 0, .slice none 0 0]) ?_ 1 _ rfl; (with_reducible repeat (first | refine blk_drewN ?_ _ | refine blk_drew ?_ | refine blk_alloc ?_ _)); refine blk_put (cs := #[.int .i64 0, .int .i64 0, .int .i64 0, .int .i64 0, .slice none 0 0]) ?_ 0 _ rfl; (with_reducible repeat (first | refine blk_drewN ?_ _ | refine blk_drew ?_ | refine blk_alloc ?_ _)); exact BK423.out⟩, ⟨by repeat (first | (with_reducible first | exact HI0.out | apply IsS94.alloc | apply IsS94.drewN | apply IsS94.drew | apply IsS94.set_0 | apply IsS94.set_1 | apply IsS94.set_2 | refine IsS94.far ?_ NB0_421.out _ | refine IsS94.far ?_ NB0_422.out _ | refine IsS94.far ?_ NB0_423.out _) | exact HI0.out)⟩, ⟨by repeat (first | (with_reducible first | exact HK.out | apply KeepBut.set_ | apply keep_drewN | apply keep_drew | apply keep_alloc | refine keep_far ?_ GW421.out _ | refine keep_far ?_ GW422.out _ | refine keep_far ?_ GW423.out _) | exact HK.out)⟩, ⟨by repeat (first | (with_reducible first | exact HB.out | apply below_alloc | apply pw_below_drewN | apply below_drew1 | refine below_set ?_ (IsS94.ge HI0.out) | refine below_set ?_ GE421.out | refine below_set ?_ GE422.out | refine below_set ?_ GE423.out) | exact HB.out)⟩⟩
  ·replace c14 := Bool.eq_false_iff.mpr c14
   subst c14
   have H1 : ((impl_scan_ue.f k s0_0 s0_1 s0_2).bind fun bt424 => (impl_scan_square.j0 k bt424.2.1 bt424.2.2.1 bt424.2.2.2 false a1_1 a1_2 a1_3 bt424.1 0 0 0)) = some (r1, r2, r3, r4, r5, r6, r7, r8) := by rw [if_neg (show ¬ (false = true) by decide)] at H; exact H
   clear H
   have H := H1
   clear H1
   replace H := Option.bind_eq_some_iff.mp H
   obtain ⟨⟨t424, t425, t426, t427⟩, A150, H⟩ := H
   replace H : (impl_scan_square.j0 k t425 t426 t427 false a1_1 a1_2 a1_3 t424 0 0 0) = some (r1, r2, r3, r4, r5, r6, r7, r8) := H
   have A15 := Aside0.mk A150
   clear A150
   have H' := Aside0.mk H
   clear H
   go_wp2_with (first | ((with_reducible refine gate_callee (f := 121) rfl ?_); refine goesL_ (some 11) rfl rfl Try.func121 (by kernel_rfl) rfl #[.pointer (some ⟨g, 0, none⟩)] rfl (by (try simp only [List.map_toArray, List.map_cons, List.map_nil]); first | done | rfl | (simp only [List.length_drop, List.length_take]; rfl)) ?_; (with_reducible refine (impl_scan_ue.calls k g s0_0 s0_1 s0_2 t424 t425 t426 t427 w0 _ ?side1 ?side2 A15.out).mono ?_); (case side1 => repeat (first | (with_reducible first | exact HI0.out | apply IsS94.alloc | apply IsS94.drewN | apply IsS94.drew | apply IsS94.set_0 | apply IsS94.set_1 | apply IsS94.set_2 | refine IsS94.far ?_ NB0_421.out _ | refine IsS94.far ?_ NB0_422.out _ | refine IsS94.far ?_ NB0_423.out _) | exact HI0.out)); (case side2 => repeat (first | (with_reducible first | exact HB.out | apply below_alloc | apply pw_below_drewN | apply below_drew1 | refine below_set ?_ (IsS94.ge HI0.out) | refine below_set ?_ GE421.out | refine below_set ?_ GE422.out | refine below_set ?_ GE423.out) | exact HB.out)); rintro e w16 ⟨rfl, hi, hb, hk⟩; refine ⟨_, rfl, ?_⟩; have n0_ := Aside0.mk (KeepBut.blk hk (g' := gb421) (o := .cells #[.bool false, .int .i64 a1_1, .bool a1_2, .bool a1_3] 40 (0, 0)) (by (with_reducible repeat (first | refine blk_drewN ?_ _ | refine blk_drew ?_ | refine blk_alloc ?_ _)); refine blk_far ?_ NB421_423.out _; (with_reducible repeat (first | refine blk_drewN ?_ _ | refine blk_drew ?_ | refine blk_alloc ?_ _)); refine blk_far ?_ NB421_423.out _; (with_reducible repeat (first | refine blk_drewN ?_ _ | refine blk_drew ?_ | refine blk_alloc ?_ _)); refine blk_far ?_ NB421_423.out _; (with_reducible repeat (first | refine blk_drewN ?_ _ | refine blk_drew ?_ | refine blk_alloc ?_ _)); refine blk_far ?_ NB421_423.out _; (with_reducible repeat (first | refine blk_drewN ?_ _ | refine blk_drew ?_ | refine blk_alloc ?_ _)); refine blk_far ?_ NB421_423.out _; (with_reducible repeat (first | refine blk_drewN ?_ _ | refine blk_drew ?_ | refine blk_alloc ?_ _)); exact BK421.out) NB421_0.out (by simp)); have n1_ := Aside0.mk (KeepBut.blk hk (g' := gb422) (o := .cells #[.int .i64 0, .int .i64 0, .int .i64 0, .int .i64 0, .slice none 0 0] 50 (0, 0)) (by (with_reducible repeat (first | refine blk_drewN ?_ _ | refine blk_drew ?_ | refine blk_alloc ?_ _)); refine blk_far ?_ NB422_423.out _; (with_reducible repeat (first | refine blk_drewN ?_ _ | refine blk_drew ?_ | refine blk_alloc ?_ _)); refine blk_far ?_ NB422_423.out _; (with_reducible repeat (first | refine blk_drewN ?_ _ | refine blk_drew ?_ | refine blk_alloc ?_ _)); refine blk_far ?_ NB422_423.out _; (with_reducible repeat (first | refine blk_drewN ?_ _ | refine blk_drew ?_ | refine blk_alloc ?_ _)); refine blk_far ?_ NB422_423.out _; (with_reducible repeat (first | refine blk_drewN ?_ _ | refine blk_drew ?_ | refine blk_alloc ?_ _)); refine blk_far ?_ NB422_423.out _; (with_reducible repeat (first | refine blk_drewN ?_ _ | refine blk_drew ?_ | refine blk_alloc ?_ _)); exact BK422.out) NB422_0.out (by simp)); have n2_ := Aside0.mk (KeepBut.blk hk (g' := gb423) (o := .cells #[.int .i64 2, .int .i64 0, .int .i64 0, .int .i64 0, .slice none 0 0] 50 (0, 0)) (by (with_reducible repeat (first | refine blk_drewN ?_ _ | refine blk_drew ?_ | refine blk_alloc ?_ _)); refine blk_put (cs := #[.int .i64 2, .int .i64 0, .int .i64 0, .int .i64 0, .slice none 0 0]) ?_ 4 _ rfl; (with_reducible repeat (first | refine blk_drewN ?_ _ | refine blk_drew ?_ | refine blk_alloc ?_ _)); refine blk_put (cs := #[.int .i64 2, .int .i64 0, .int .i64 0, .int .i64 0, .slice none 0 0]) ?_ 3 _ rfl; (with_reducible repeat (first | refine blk_drewN ?_ _ | refine blk_drew ?_ | refine blk_alloc ?_ _)); refine blk_put (cs := #[.int .i64 2, .int .i64 0, .int .i64 0, .int .i64 0, .slice none 0 0]) ?_ 2 _ rfl; (with_reducible repeat (first | refine blk_drewN ?_ _ | refine blk_drew ?_ | refine blk_alloc ?_ _)); refine blk_put (cs := #[.int .i64 2, .int .i64 0, .int .i64 0, .int .i64 0, .slice none 0 0]) ?_ 1 _ rfl; (with_reducible repeat (first | refine blk_drewN ?_ _ | refine blk_drew ?_ | refine blk_alloc ?_ _)); refine blk_put (cs := #[.int .i64 0, .int .i64 0, .int .i64 0, .int .i64 0, .slice none 0 0]) ?_ 0 _ rfl; (with_reducible repeat (first | refine blk_drewN ?_ _ | refine blk_drew ?_ | refine blk_alloc ?_ _)); exact BK423.out) NB423_0.out (by simp)); have n3_ := Aside0.mk (KeepBut.trans (by repeat (first | (with_reducible first | exact HK.out | apply KeepBut.set_ | apply keep_drewN | apply keep_drew | apply keep_alloc | refine keep_far ?_ GW421.out _ | refine keep_far ?_ GW422.out _ | refine keep_far ?_ GW423.out _) | exact HK.out)) hk (.inl rfl)); have n4_ := Aside0.mk (hb); have n5_ := Aside0.mk (hi); clear BK421; clear BK422; clear BK423; clear HK; clear HB; clear HI0; have BK421 := n0_; have BK422 := n1_; have BK423 := n2_; have HK := n3_; have HB := n4_; have HI0 := n5_; clear n0_ n1_ n2_ n3_ n4_ n5_; (try clear hb); (try clear hb2); (try clear hk); (try clear hi); have hnb17 := NB423_421.out; have hnc17 := NB421_423.out; have hnb18 := NB423_422.out; have hnc18 := NB422_423.out; have hnb19 := NB423_0.out; have hnc19 := NB0_423.out; have hcz20_0 : w16.cell? ⟨gb423, 0, none⟩ = some (.int .i64 2) := (blk_cell BK423.out 0).trans rfl; have hcz20_1 : w16.cell? ⟨gb423, 1, none⟩ = some (.int .i64 0) := (blk_cell BK423.out 1).trans rfl; have hcz20_2 : w16.cell? ⟨gb423, 2, none⟩ = some (.int .i64 0) := (blk_cell BK423.out 2).trans rfl; have hcz20_3 : w16.cell? ⟨gb423, 3, none⟩ = some (.int .i64 0) := (blk_cell BK423.out 3).trans rfl; have hcz20_4 : w16.cell? ⟨gb423, 4, none⟩ = some (.slice none 0 0) := (blk_cell BK423.out 4).trans rfl; have hfz20_0 := blk_frozen BK423.out 0; have hfz20_1 := blk_frozen BK423.out 1; have hfz20_2 := blk_frozen BK423.out 2; have hfz20_3 := blk_frozen BK423.out 3; have hfz20_4 := blk_frozen BK423.out 4))
   go_meet
   case rel => exact ⟨_, (t425), (t426), (t427), (t424), H', ⟨by first | omega | exact Nat.le_refl _⟩, ⟨by (with_reducible repeat (first | refine blk_drewN ?_ _ | refine blk_drew ?_ | refine blk_alloc ?_ _)); refine blk_far ?_ NB421_423.out _; (with_reducible repeat (first | refine blk_drewN ?_ _ | refine blk_drew ?_ | refine blk_alloc ?_ _)); exact BK421.out⟩, ⟨by (with_reducible repeat (first | refine blk_drewN ?_ _ | refine blk_drew ?_ | refine blk_alloc ?_ _)); refine blk_far ?_ NB422_423.out _; (with_reducible repeat (first | refine blk_drewN ?_ _ | refine blk_drew ?_ | refine blk_alloc ?_ _)); exact BK422.out⟩, ⟨by (with_reducible repeat (first | refine blk_drewN ?_ _ | refine blk_drew ?_ | refine blk_alloc ?_ _)); refine blk_put (cs := #[.int .i64 2, .int .i64 0, .int .i64 0, .int .i64 0, .slice none 0 0]) ?_ 0 _ rfl; (with_reducible repeat (first | refine blk_drewN ?_ _ | refine blk_drew ?_ | refine blk_alloc ?_ _)); exact BK423.out⟩, ⟨by repeat (first | (with_reducible first | exact HI0.out | apply IsS94.alloc | apply IsS94.drewN | apply IsS94.drew | apply IsS94.set_0 | apply IsS94.set_1 | apply IsS94.set_2 | refine IsS94.far ?_ NB0_421.out _ | refine IsS94.far ?_ NB0_422.out _ | refine IsS94.far ?_ NB0_423.out _) | exact HI0.out)⟩, ⟨by repeat (first | (with_reducible first | exact HK.out | apply KeepBut.set_ | apply keep_drewN | apply keep_drew | apply keep_alloc | refine keep_far ?_ GW421.out _ | refine keep_far ?_ GW422.out _ | refine keep_far ?_ GW423.out _) | exact HK.out)⟩, ⟨by repeat (first | (with_reducible first | exact HB.out | apply below_alloc | apply pw_below_drewN | apply below_drew1 | refine below_set ?_ (IsS94.ge HI0.out) | refine below_set ?_ GE421.out | refine below_set ?_ GE422.out | refine below_set ?_ GE423.out) | exact HB.out)⟩⟩
 case rest =>
  clear HC3
  try clear c1
  try clear p2
  try clear c7
  try clear c8
  try clear c9
  try clear c11
  try clear c12
  try clear c14
  try clear c17
  try clear c18
  try clear c19
  try clear hcz10_0
  try clear hcz10_1
  try clear hcz10_2
  try clear hcz10_3
  try clear hcz10_4
  try clear hcz13_0
  try clear hcz13_1
  try clear hcz13_2
  try clear hcz13_3
  try clear hcz20_0
  try clear hcz20_1
  try clear hcz20_2
  try clear hcz20_3
  try clear hcz20_4
  try clear hfz10_0
  try clear hfz10_1
  try clear hfz10_2
  try clear hfz10_3
  try clear hfz10_4
  try clear hfz13_0
  try clear hfz13_1
  try clear hfz13_2
  try clear hfz13_3
  try clear hfz20_0
  try clear hfz20_1
  try clear hfz20_2
  try clear hfz20_3
  try clear hfz20_4
  obtain ⟨kq, x1000_2, x1001_2, x1002_2, x424000_2, HA, HJ2, BK421, BK422, BK423, HI0, HK, HB⟩ := hcut
  cases kq with
  | zero => exact absurd HA.out (by simp [impl_scan_square.j0])
  | succ kj2 =>
   have H := HA.out
   clear HA
   simp only [impl_scan_square.j0] at H
   by_cases c21 : x1002_2 = true
   ·subst c21
    have H1 : (some (x424000_2, 0, 0, 0, ([] : List Int), x1000_2, x1001_2, true)) = some (r1, r2, r3, r4, r5, r6, r7, r8) := by rw [if_pos rfl] at H; exact H
    clear H
    have H := H1
    clear H1
    simp only [Option.some.injEq, Prod.mk.injEq] at H
    obtain ⟨rfl, rfl, rfl, rfl, rfl, rfl, rfl, rfl⟩ := H
    obtain ⟨HGz22, hgz22⟩ := HI0.out
    have hcz22_0 := cellS94_0 HGz22
    have hcz22_1 := cellS94_1 HGz22
    have hcz22_2 := cellS94_2 HGz22
    have hfz22_0 := blk_frozen HGz22 0
    have hfz22_1 := blk_frozen HGz22 1
    have hfz22_2 := blk_frozen HGz22 2
    clear HGz22 hgz22
    have hnb23 := NB423_421.out
    have hnc23 := NB421_423.out
    have hnb24 := NB423_422.out
    have hnc24 := NB422_423.out
    have hnb25 := NB423_0.out
    have hnc25 := NB0_423.out
    have hcz26_0 : wc.cell? ⟨gb423, 0, none⟩ = some (.int .i64 x424000_2) := (blk_cell BK423.out 0).trans rfl
    have hcz26_1 : wc.cell? ⟨gb423, 1, none⟩ = some (.int .i64 0) := (blk_cell BK423.out 1).trans rfl
    have hcz26_2 : wc.cell? ⟨gb423, 2, none⟩ = some (.int .i64 0) := (blk_cell BK423.out 2).trans rfl
    have hcz26_3 : wc.cell? ⟨gb423, 3, none⟩ = some (.int .i64 0) := (blk_cell BK423.out 3).trans rfl
    have hcz26_4 : wc.cell? ⟨gb423, 4, none⟩ = some (.slice none 0 0) := (blk_cell BK423.out 4).trans rfl
    have hfz26_0 := blk_frozen BK423.out 0
    have hfz26_1 := blk_frozen BK423.out 1
    have hfz26_2 := blk_frozen BK423.out 2
    have hfz26_3 := blk_frozen BK423.out 3
    have hfz26_4 := blk_frozen BK423.out 4
    have hnb27 := NB422_421.out
    have hnc27 := NB421_422.out
    have hnb28 := NB422_0.out
    have hnc28 := NB0_422.out
    have hcz29_0 : wc.cell? ⟨gb422, 0, none⟩ = some (.int .i64 0) := (blk_cell BK422.out 0).trans rfl
    have hcz29_1 : wc.cell? ⟨gb422, 1, none⟩ = some (.int .i64 0) := (blk_cell BK422.out 1).trans rfl
    have hcz29_2 : wc.cell? ⟨gb422, 2, none⟩ = some (.int .i64 0) := (blk_cell BK422.out 2).trans rfl
    have hcz29_3 : wc.cell? ⟨gb422, 3, none⟩ = some (.int .i64 0) := (blk_cell BK422.out 3).trans rfl
    have hcz29_4 : wc.cell? ⟨gb422, 4, none⟩ = some (.slice none 0 0) := (blk_cell BK422.out 4).trans rfl
    have hfz29_0 := blk_frozen BK422.out 0
    have hfz29_1 := blk_frozen BK422.out 1
    have hfz29_2 := blk_frozen BK422.out 2
    have hfz29_3 := blk_frozen BK422.out 3
    have hfz29_4 := blk_frozen BK422.out 4
    go_wp2
    refine bodyPost_ret (results_cell_row rfl _ _ gb422 50 #[.int .i64 x424000_2, .int .i64 0, .int .i64 0, .int .i64 0, .slice none 0 0] (0, 0) _ rfl (by (with_reducible repeat (first | refine blk_drewN ?_ _ | refine blk_drew ?_ | refine blk_alloc ?_ _)); refine blk_put (cs := #[.int .i64 x424000_2, .int .i64 0, .int .i64 0, .int .i64 0, .slice none 0 0]) ?_ 4 _ rfl; (with_reducible repeat (first | refine blk_drewN ?_ _ | refine blk_drew ?_ | refine blk_alloc ?_ _)); refine blk_put (cs := #[.int .i64 x424000_2, .int .i64 0, .int .i64 0, .int .i64 0, .slice none 0 0]) ?_ 3 _ rfl; (with_reducible repeat (first | refine blk_drewN ?_ _ | refine blk_drew ?_ | refine blk_alloc ?_ _)); refine blk_put (cs := #[.int .i64 x424000_2, .int .i64 0, .int .i64 0, .int .i64 0, .slice none 0 0]) ?_ 2 _ rfl; (with_reducible repeat (first | refine blk_drewN ?_ _ | refine blk_drew ?_ | refine blk_alloc ?_ _)); refine blk_put (cs := #[.int .i64 x424000_2, .int .i64 0, .int .i64 0, .int .i64 0, .slice none 0 0]) ?_ 1 _ rfl; (with_reducible repeat (first | refine blk_drewN ?_ _ | refine blk_drew ?_ | refine blk_alloc ?_ _)); refine blk_put (cs := #[.int .i64 0, .int .i64 0, .int .i64 0, .int .i64 0, .slice none 0 0]) ?_ 0 _ rfl; (with_reducible repeat (first | refine blk_drewN ?_ _ | refine blk_drew ?_ | refine blk_alloc ?_ _)); refine blk_far ?_ NB422_0.out _; (with_reducible repeat (first | refine blk_drewN ?_ _ | refine blk_drew ?_ | refine blk_alloc ?_ _)); exact BK422.out) Try.underlying50 rfl (by kernel_rfl)) rfl ?_
    exact ⟨_, by first | rfl | (simp [errW_none, errW_some] <;> rfl) | (simp [*, errW_none, errW_some] <;> rfl), by first | exact Kd.R_nil _ _ _ _ _ | exact Kd.N_nil _ _ _ _ _ | exact Kd.V_nil _ _ _ _ _ | exact Kd.Q_nil _ _ _ _ _ | exact Kd.S_nil _ _ _ _ _, by repeat (first | (with_reducible first | exact HI0.out | apply IsS94.alloc | apply IsS94.drewN | apply IsS94.drew | apply IsS94.set_0 | apply IsS94.set_1 | apply IsS94.set_2 | refine IsS94.far ?_ NB0_421.out _ | refine IsS94.far ?_ NB0_422.out _ | refine IsS94.far ?_ NB0_423.out _) | exact HI0.out), by repeat (first | (with_reducible first | exact HB.out | apply below_alloc | apply pw_below_drewN | apply below_drew1 | refine below_set ?_ (IsS94.ge HI0.out) | refine below_set ?_ GE421.out | refine below_set ?_ GE422.out | refine below_set ?_ GE423.out) | exact HB.out), by repeat (first | (with_reducible first | exact HK.out | apply KeepBut.set_ | apply keep_drewN | apply keep_drew | apply keep_alloc | refine keep_far ?_ GW421.out _ | refine keep_far ?_ GW422.out _ | refine keep_far ?_ GW423.out _) | exact HK.out)⟩
   ·replace c21 := Bool.eq_false_iff.mpr c21
    subst c21
    have H1 : (if x424000_2 = 1 then ((impl_scan_se.f kj2 x1000_2 x1001_2 false).bind fun bt428 => ((impl_scan_se.f kj2 bt428.2.1 bt428.2.2.1 bt428.2.2.2).bind fun bt432 => ((impl_scan_levels.f kj2 bt432.2.1 bt432.2.2.1 bt432.2.2.2 a1_0 a1_1 a1_2 a1_3).bind fun bt436 => (if bt436.2.2.2 = true then (some (x424000_2, 0, bt428.1, bt432.1, bt436.1, bt436.2.1, bt436.2.2.1, true)) else ((impl_SquareOk.f kj2 x424000_2 0 bt428.1 bt432.1 bt436.1).bind fun t442 => (some (x424000_2, 0, bt428.1, bt432.1, bt436.1, bt436.2.1, bt436.2.2.1, !t442))))))) else (if x424000_2 = 2 then ((impl_scan_ue.f kj2 x1000_2 x1001_2 false).bind fun bt443 => ((impl_scan_levels.f kj2 bt443.2.1 bt443.2.2.1 bt443.2.2.2 a1_0 a1_1 a1_2 a1_3).bind fun bt447 => (if bt447.2.2.2 = true then (some (x424000_2, bt443.1, 0, 0, bt447.1, bt447.2.1, bt447.2.2.1, true)) else ((impl_SquareOk.f kj2 x424000_2 bt443.1 0 0 bt447.1).bind fun t453 => (some (x424000_2, bt443.1, 0, 0, bt447.1, bt447.2.1, bt447.2.2.1, !t453)))))) else ((impl_SquareOk.f kj2 x424000_2 0 0 0 ([] : List Int)).bind fun t454 => (some (x424000_2, 0, 0, 0, ([] : List Int), x1000_2, x1001_2, !t454))))) = some (r1, r2, r3, r4, r5, r6, r7, r8) := by rw [if_neg (show ¬ (false = true) by decide)] at H; exact H
    clear H
    have H := H1
    clear H1
    by_cases c30 : x424000_2 = 1
    ·rw [if_pos c30] at H
     have c30b0 : (x424000_2 == 1) = true := beq_iff_eq.mpr c30
     have c30b1 : (x424000_2 != 1) = false := bne_eq_false_iff_eq.mpr c30
     clear c30
     replace H := Option.bind_eq_some_iff.mp H
     obtain ⟨⟨t428, t429, t430, t431⟩, A310, H⟩ := H
     replace H : ((impl_scan_se.f kj2 t429 t430 t431).bind fun bt432 => ((impl_scan_levels.f kj2 bt432.2.1 bt432.2.2.1 bt432.2.2.2 a1_0 a1_1 a1_2 a1_3).bind fun bt436 => (if bt436.2.2.2 = true then (some (x424000_2, 0, t428, bt432.1, bt436.1, bt436.2.1, bt436.2.2.1, true)) else ((impl_SquareOk.f kj2 x424000_2 0 t428 bt432.1 bt436.1).bind fun t442 => (some (x424000_2, 0, t428, bt432.1, bt436.1, bt436.2.1, bt436.2.2.1, !t442)))))) = some (r1, r2, r3, r4, r5, r6, r7, r8) := H
     have A31 := Aside0.mk A310
     clear A310
     replace H := Option.bind_eq_some_iff.mp H
     obtain ⟨⟨t432, t433, t434, t435⟩, A320, H⟩ := H
     replace H : ((impl_scan_levels.f kj2 t433 t434 t435 a1_0 a1_1 a1_2 a1_3).bind fun bt436 => (if bt436.2.2.2 = true then (some (x424000_2, 0, t428, t432, bt436.1, bt436.2.1, bt436.2.2.1, true)) else ((impl_SquareOk.f kj2 x424000_2 0 t428 t432 bt436.1).bind fun t442 => (some (x424000_2, 0, t428, t432, bt436.1, bt436.2.1, bt436.2.2.1, !t442))))) = some (r1, r2, r3, r4, r5, r6, r7, r8) := H
     have A32 := Aside0.mk A320
     clear A320
     replace H := Option.bind_eq_some_iff.mp H
     obtain ⟨⟨t436, t439, t440, t441⟩, A330, H⟩ := H
     replace H : (if t441 = true then (some (x424000_2, 0, t428, t432, t436, t439, t440, true)) else ((impl_SquareOk.f kj2 x424000_2 0 t428 t432 t436).bind fun t442 => (some (x424000_2, 0, t428, t432, t436, t439, t440, !t442)))) = some (r1, r2, r3, r4, r5, r6, r7, r8) := H
     have A33 := Aside0.mk A330
     clear A330
     by_cases c34 : t441 = true
     ·subst c34
      have H1 : (some (x424000_2, 0, t428, t432, t436, t439, t440, true)) = some (r1, r2, r3, r4, r5, r6, r7, r8) := by rw [if_pos rfl] at H; exact H
      clear H
      have H := H1
      clear H1
      simp only [Option.some.injEq, Prod.mk.injEq] at H
      obtain ⟨rfl, rfl, rfl, rfl, rfl, rfl, rfl, rfl⟩ := H
      obtain ⟨HGz35, hgz35⟩ := HI0.out
      have hcz35_0 := cellS94_0 HGz35
      have hcz35_1 := cellS94_1 HGz35
      have hcz35_2 := cellS94_2 HGz35
      have hfz35_0 := blk_frozen HGz35 0
      have hfz35_1 := blk_frozen HGz35 1
      have hfz35_2 := blk_frozen HGz35 2
      clear HGz35 hgz35
      have hnb36 := NB423_421.out
      have hnc36 := NB421_423.out
      have hnb37 := NB423_422.out
      have hnc37 := NB422_423.out
      have hnb38 := NB423_0.out
      have hnc38 := NB0_423.out
      have hcz39_0 : wc.cell? ⟨gb423, 0, none⟩ = some (.int .i64 x424000_2) := (blk_cell BK423.out 0).trans rfl
      have hcz39_1 : wc.cell? ⟨gb423, 1, none⟩ = some (.int .i64 0) := (blk_cell BK423.out 1).trans rfl
      have hcz39_2 : wc.cell? ⟨gb423, 2, none⟩ = some (.int .i64 0) := (blk_cell BK423.out 2).trans rfl
      have hcz39_3 : wc.cell? ⟨gb423, 3, none⟩ = some (.int .i64 0) := (blk_cell BK423.out 3).trans rfl
      have hcz39_4 : wc.cell? ⟨gb423, 4, none⟩ = some (.slice none 0 0) := (blk_cell BK423.out 4).trans rfl
      have hfz39_0 := blk_frozen BK423.out 0
      have hfz39_1 := blk_frozen BK423.out 1
      have hfz39_2 := blk_frozen BK423.out 2
      have hfz39_3 := blk_frozen BK423.out 3
      have hfz39_4 := blk_frozen BK423.out 4
      go_wp2_with (first | ((with_reducible refine gate_callee (f := 122) rfl ?_); refine goesL_ (some 23) rfl rfl Try.func122 (by kernel_rfl) rfl #[.pointer (some ⟨g, 0, none⟩)] rfl (by (try simp only [List.map_toArray, List.map_cons, List.map_nil]); first | done | rfl | (simp only [List.length_drop, List.length_take]; rfl)) ?_; (with_reducible refine (impl_scan_se.calls kj2 g x1000_2 x1001_2 false t428 t429 t430 t431 w0 _ ?side1 ?side2 A31.out).mono ?_); (case side1 => repeat (first | (with_reducible first | exact HI0.out | apply IsS94.alloc | apply IsS94.drewN | apply IsS94.drew | apply IsS94.set_0 | apply IsS94.set_1 | apply IsS94.set_2 | refine IsS94.far ?_ NB0_421.out _ | refine IsS94.far ?_ NB0_422.out _ | refine IsS94.far ?_ NB0_423.out _) | exact HI0.out)); (case side2 => repeat (first | (with_reducible first | exact HB.out | apply below_alloc | apply pw_below_drewN | apply below_drew1 | refine below_set ?_ (IsS94.ge HI0.out) | refine below_set ?_ GE421.out | refine below_set ?_ GE422.out | refine below_set ?_ GE423.out) | exact HB.out)); rintro e w40 ⟨rfl, hi, hb, hk⟩; refine ⟨_, rfl, ?_⟩; have n0_ := Aside0.mk (KeepBut.blk hk (g' := gb421) (o := .cells #[.bool a1_0, .int .i64 a1_1, .bool a1_2, .bool a1_3] 40 (0, 0)) (by (with_reducible repeat (first | refine blk_drewN ?_ _ | refine blk_drew ?_ | refine blk_alloc ?_ _)); exact BK421.out) NB421_0.out (by simp)); have n1_ := Aside0.mk (KeepBut.blk hk (g' := gb422) (o := .cells #[.int .i64 0, .int .i64 0, .int .i64 0, .int .i64 0, .slice none 0 0] 50 (0, 0)) (by (with_reducible repeat (first | refine blk_drewN ?_ _ | refine blk_drew ?_ | refine blk_alloc ?_ _)); exact BK422.out) NB422_0.out (by simp)); have n2_ := Aside0.mk (KeepBut.blk hk (g' := gb423) (o := .cells #[.int .i64 x424000_2, .int .i64 0, .int .i64 0, .int .i64 0, .slice none 0 0] 50 (0, 0)) (by (with_reducible repeat (first | refine blk_drewN ?_ _ | refine blk_drew ?_ | refine blk_alloc ?_ _)); exact BK423.out) NB423_0.out (by simp)); have n3_ := Aside0.mk (KeepBut.trans (by repeat (first | (with_reducible first | exact HK.out | apply KeepBut.set_ | apply keep_drewN | apply keep_drew | apply keep_alloc | refine keep_far ?_ GW421.out _ | refine keep_far ?_ GW422.out _ | refine keep_far ?_ GW423.out _) | exact HK.out)) hk (.inl rfl)); have n4_ := Aside0.mk (hb); have n5_ := Aside0.mk (hi); clear BK421; clear BK422; clear BK423; clear HK; clear HB; clear HI0; have BK421 := n0_; have BK422 := n1_; have BK423 := n2_; have HK := n3_; have HB := n4_; have HI0 := n5_; clear n0_ n1_ n2_ n3_ n4_ n5_; (try clear hb); (try clear hb2); (try clear hk); (try clear hi); have hcz41_0 : w40.cell? ⟨gb423, 0, none⟩ = some (.int .i64 x424000_2) := (blk_cell BK423.out 0).trans rfl; have hcz41_1 : w40.cell? ⟨gb423, 1, none⟩ = some (.int .i64 0) := (blk_cell BK423.out 1).trans rfl; have hcz41_2 : w40.cell? ⟨gb423, 2, none⟩ = some (.int .i64 0) := (blk_cell BK423.out 2).trans rfl; have hcz41_3 : w40.cell? ⟨gb423, 3, none⟩ = some (.int .i64 0) := (blk_cell BK423.out 3).trans rfl; have hcz41_4 : w40.cell? ⟨gb423, 4, none⟩ = some (.slice none 0 0) := (blk_cell BK423.out 4).trans rfl; have hfz41_0 := blk_frozen BK423.out 0; have hfz41_1 := blk_frozen BK423.out 1; have hfz41_2 := blk_frozen BK423.out 2; have hfz41_3 := blk_frozen BK423.out 3; have hfz41_4 := blk_frozen BK423.out 4) | ((with_reducible refine gate_callee (f := 122) rfl ?_); refine goesL_ (some 26) rfl rfl Try.func122 (by kernel_rfl) rfl #[.pointer (some ⟨g, 0, none⟩)] rfl (by (try simp only [List.map_toArray, List.map_cons, List.map_nil]); first | done | rfl | (simp only [List.length_drop, List.length_take]; rfl)) ?_; (with_reducible refine (impl_scan_se.calls kj2 g t429 t430 t431 t432 t433 t434 t435 w0 _ ?side1 ?side2 A32.out).mono ?_); (case side1 => repeat (first | (with_reducible first | exact HI0.out | apply IsS94.alloc | apply IsS94.drewN | apply IsS94.drew | apply IsS94.set_0 | apply IsS94.set_1 | apply IsS94.set_2 | refine IsS94.far ?_ NB0_421.out _ | refine IsS94.far ?_ NB0_422.out _ | refine IsS94.far ?_ NB0_423.out _) | exact HI0.out)); (case side2 => repeat (first | (with_reducible first | exact HB.out | apply below_alloc | apply pw_below_drewN | apply below_drew1 | refine below_set ?_ (IsS94.ge HI0.out) | refine below_set ?_ GE421.out | refine below_set ?_ GE422.out | refine below_set ?_ GE423.out) | exact HB.out)); rintro e w42 ⟨rfl, hi, hb, hk⟩; refine ⟨_, rfl, ?_⟩; have n0_ := Aside0.mk (KeepBut.blk hk (g' := gb421) (o := .cells #[.bool a1_0, .int .i64 a1_1, .bool a1_2, .bool a1_3] 40 (0, 0)) (by (with_reducible repeat (first | refine blk_drewN ?_ _ | refine blk_drew ?_ | refine blk_alloc ?_ _)); refine blk_far ?_ NB421_423.out _; (with_reducible repeat (first | refine blk_drewN ?_ _ | refine blk_drew ?_ | refine blk_alloc ?_ _)); exact BK421.out) NB421_0.out (by simp)); have n1_ := Aside0.mk (KeepBut.blk hk (g' := gb422) (o := .cells #[.int .i64 0, .int .i64 0, .int .i64 0, .int .i64 0, .slice none 0 0] 50 (0, 0)) (by (with_reducible repeat (first | refine blk_drewN ?_ _ | refine blk_drew ?_ | refine blk_alloc ?_ _)); refine blk_far ?_ NB422_423.out _; (with_reducible repeat (first | refine blk_drewN ?_ _ | refine blk_drew ?_ | refine blk_alloc ?_ _)); exact BK422.out) NB422_0.out (by simp)); have n2_ := Aside0.mk (KeepBut.blk hk (g' := gb423) (o := .cells #[.int .i64 x424000_2, .int .i64 0, .int .i64 t428, .int .i64 0, .slice none 0 0] 50 (0, 0)) (by (with_reducible repeat (first | refine blk_drewN ?_ _ | refine blk_drew ?_ | refine blk_alloc ?_ _)); refine blk_put (cs := #[.int .i64 x424000_2, .int .i64 0, .int .i64 0, .int .i64 0, .slice none 0 0]) ?_ 2 _ rfl; (with_reducible repeat (first | refine blk_drewN ?_ _ | refine blk_drew ?_ | refine blk_alloc ?_ _)); exact BK423.out) NB423_0.out (by simp)); have n3_ := Aside0.mk (KeepBut.trans (by repeat (first | (with_reducible first | exact HK.out | apply KeepBut.set_ | apply keep_drewN | apply keep_drew | apply keep_alloc | refine keep_far ?_ GW421.out _ | refine keep_far ?_ GW422.out _ | refine keep_far ?_ GW423.out _) | exact HK.out)) hk (.inl rfl)); have n4_ := Aside0.mk (hb); have n5_ := Aside0.mk (hi); clear BK421; clear BK422; clear BK423; clear HK; clear HB; clear HI0; have BK421 := n0_; have BK422 := n1_; have BK423 := n2_; have HK := n3_; have HB := n4_; have HI0 := n5_; clear n0_ n1_ n2_ n3_ n4_ n5_; (try clear hb); (try clear hb2); (try clear hk); (try clear hi); have hcz43_0 : w42.cell? ⟨gb423, 0, none⟩ = some (.int .i64 x424000_2) := (blk_cell BK423.out 0).trans rfl; have hcz43_1 : w42.cell? ⟨gb423, 1, none⟩ = some (.int .i64 0) := (blk_cell BK423.out 1).trans rfl; have hcz43_2 : w42.cell? ⟨gb423, 2, none⟩ = some (.int .i64 t428) := (blk_cell BK423.out 2).trans rfl; have hcz43_3 : w42.cell? ⟨gb423, 3, none⟩ = some (.int .i64 0) := (blk_cell BK423.out 3).trans rfl; have hcz43_4 : w42.cell? ⟨gb423, 4, none⟩ = some (.slice none 0 0) := (blk_cell BK423.out 4).trans rfl; have hfz43_0 := blk_frozen BK423.out 0; have hfz43_1 := blk_frozen BK423.out 1; have hfz43_2 := blk_frozen BK423.out 2; have hfz43_3 := blk_frozen BK423.out 3; have hfz43_4 := blk_frozen BK423.out 4; have hnb44 := NB421_422.out; have hnc44 := NB422_421.out; have hnb45 := NB421_0.out; have hnc45 := NB0_421.out; have hcz46_0 : w42.cell? ⟨gb421, 0, none⟩ = some (.bool a1_0) := (blk_cell BK421.out 0).trans rfl; have hcz46_1 : w42.cell? ⟨gb421, 1, none⟩ = some (.int .i64 a1_1) := (blk_cell BK421.out 1).trans rfl; have hcz46_2 : w42.cell? ⟨gb421, 2, none⟩ = some (.bool a1_2) := (blk_cell BK421.out 2).trans rfl; have hcz46_3 : w42.cell? ⟨gb421, 3, none⟩ = some (.bool a1_3) := (blk_cell BK421.out 3).trans rfl; have hfz46_0 := blk_frozen BK421.out 0; have hfz46_1 := blk_frozen BK421.out 1; have hfz46_2 := blk_frozen BK421.out 2; have hfz46_3 := blk_frozen BK421.out 3) | ((with_reducible refine gate_callee (f := 112) rfl ?_); refine goesL_ (some 30) rfl rfl Try.func112 (by kernel_rfl) rfl #[.pointer (some ⟨g, 0, none⟩), .agg #[.bool a1_0, .int .i64 a1_1, .bool a1_2, .bool a1_3]] rfl (by (try simp only [List.map_toArray, List.map_cons, List.map_nil]); first | done | rfl | (simp only [List.length_drop, List.length_take]; rfl)) ?_; (with_reducible refine (impl_scan_levels.calls kj2 g t433 t434 t435 a1_0 a1_1 a1_2 a1_3 t436 t439 t440 true w0 _ ?side1 ?side2 A33.out).mono ?_); (case side1 => repeat (first | (with_reducible first | exact HI0.out | apply IsS94.alloc | apply IsS94.drewN | apply IsS94.drew | apply IsS94.set_0 | apply IsS94.set_1 | apply IsS94.set_2 | refine IsS94.far ?_ NB0_421.out _ | refine IsS94.far ?_ NB0_422.out _ | refine IsS94.far ?_ NB0_423.out _) | exact HI0.out)); (case side2 => repeat (first | (with_reducible first | exact HB.out | apply below_alloc | apply pw_below_drewN | apply below_drew1 | refine below_set ?_ (IsS94.ge HI0.out) | refine below_set ?_ GE421.out | refine below_set ?_ GE422.out | refine below_set ?_ GE423.out) | exact HB.out)); rintro e w47 ⟨v437, rfl, ho0, hi, hb, hk⟩; refine ⟨_, rfl, ?_⟩; have n0_ := Aside0.mk (KeepBut.blk hk (g' := gb421) (o := .cells #[.bool a1_0, .int .i64 a1_1, .bool a1_2, .bool a1_3] 40 (0, 0)) (by (with_reducible repeat (first | refine blk_drewN ?_ _ | refine blk_drew ?_ | refine blk_alloc ?_ _)); refine blk_far ?_ NB421_423.out _; (with_reducible repeat (first | refine blk_drewN ?_ _ | refine blk_drew ?_ | refine blk_alloc ?_ _)); exact BK421.out) NB421_0.out (by simp)); have n1_ := Aside0.mk (KeepBut.blk hk (g' := gb422) (o := .cells #[.int .i64 0, .int .i64 0, .int .i64 0, .int .i64 0, .slice none 0 0] 50 (0, 0)) (by (with_reducible repeat (first | refine blk_drewN ?_ _ | refine blk_drew ?_ | refine blk_alloc ?_ _)); refine blk_far ?_ NB422_423.out _; (with_reducible repeat (first | refine blk_drewN ?_ _ | refine blk_drew ?_ | refine blk_alloc ?_ _)); exact BK422.out) NB422_0.out (by simp)); have n2_ := Aside0.mk (KeepBut.blk hk (g' := gb423) (o := .cells #[.int .i64 x424000_2, .int .i64 0, .int .i64 t428, .int .i64 t432, .slice none 0 0] 50 (0, 0)) (by (with_reducible repeat (first | refine blk_drewN ?_ _ | refine blk_drew ?_ | refine blk_alloc ?_ _)); refine blk_put (cs := #[.int .i64 x424000_2, .int .i64 0, .int .i64 t428, .int .i64 0, .slice none 0 0]) ?_ 3 _ rfl; (with_reducible repeat (first | refine blk_drewN ?_ _ | refine blk_drew ?_ | refine blk_alloc ?_ _)); exact BK423.out) NB423_0.out (by simp)); have n3_ := Aside0.mk (Kd.R_lower ho0 (keep_size (w := w) (g := g) (row := none) (by repeat (first | (with_reducible first | exact HK.out | apply KeepBut.set_ | apply keep_drewN | apply keep_drew | apply keep_alloc | refine keep_far ?_ GW421.out _ | refine keep_far ?_ GW422.out _ | refine keep_far ?_ GW423.out _) | exact HK.out)))); have n4_ := Aside0.mk (KeepBut.trans (by repeat (first | (with_reducible first | exact HK.out | apply KeepBut.set_ | apply keep_drewN | apply keep_drew | apply keep_alloc | refine keep_far ?_ GW421.out _ | refine keep_far ?_ GW422.out _ | refine keep_far ?_ GW423.out _) | exact HK.out)) hk (.inl rfl)); have n5_ := Aside0.mk (hb); have n6_ := Aside0.mk (hi); clear BK421; clear BK422; clear BK423; clear HK; clear HB; clear HI0; have BK421 := n0_; have BK422 := n1_; have BK423 := n2_; have HO438 := n3_; have HK := n4_; have HB := n5_; have HI0 := n6_; clear n0_ n1_ n2_ n3_ n4_ n5_ n6_; (try clear hb); (try clear hb2); (try clear hk); (try clear hi); (try clear ho0); obtain ⟨Ao48, co48, eo48⟩ := Kd.R_slice HO438.out; subst eo48; have hcz49_0 : w47.cell? ⟨gb423, 0, none⟩ = some (.int .i64 x424000_2) := (blk_cell BK423.out 0).trans rfl; have hcz49_1 : w47.cell? ⟨gb423, 1, none⟩ = some (.int .i64 0) := (blk_cell BK423.out 1).trans rfl; have hcz49_2 : w47.cell? ⟨gb423, 2, none⟩ = some (.int .i64 t428) := (blk_cell BK423.out 2).trans rfl; have hcz49_3 : w47.cell? ⟨gb423, 3, none⟩ = some (.int .i64 t432) := (blk_cell BK423.out 3).trans rfl; have hcz49_4 : w47.cell? ⟨gb423, 4, none⟩ = some (.slice none 0 0) := (blk_cell BK423.out 4).trans rfl; have hfz49_0 := blk_frozen BK423.out 0; have hfz49_1 := blk_frozen BK423.out 1; have hfz49_2 := blk_frozen BK423.out 2; have hfz49_3 := blk_frozen BK423.out 3; have hfz49_4 := blk_frozen BK423.out 4; obtain ⟨HGz50, hgz50⟩ := HI0.out; have hcz50_0 := cellS94_0 HGz50; have hcz50_1 := cellS94_1 HGz50; have hcz50_2 := cellS94_2 HGz50; have hfz50_0 := blk_frozen HGz50 0; have hfz50_1 := blk_frozen HGz50 1; have hfz50_2 := blk_frozen HGz50 2; clear HGz50 hgz50; have hnb51 := NB422_0.out; have hnc51 := NB0_422.out; have hcz52_0 : w47.cell? ⟨gb422, 0, none⟩ = some (.int .i64 0) := (blk_cell BK422.out 0).trans rfl; have hcz52_1 : w47.cell? ⟨gb422, 1, none⟩ = some (.int .i64 0) := (blk_cell BK422.out 1).trans rfl; have hcz52_2 : w47.cell? ⟨gb422, 2, none⟩ = some (.int .i64 0) := (blk_cell BK422.out 2).trans rfl; have hcz52_3 : w47.cell? ⟨gb422, 3, none⟩ = some (.int .i64 0) := (blk_cell BK422.out 3).trans rfl; have hcz52_4 : w47.cell? ⟨gb422, 4, none⟩ = some (.slice none 0 0) := (blk_cell BK422.out 4).trans rfl; have hfz52_0 := blk_frozen BK422.out 0; have hfz52_1 := blk_frozen BK422.out 1; have hfz52_2 := blk_frozen BK422.out 2; have hfz52_3 := blk_frozen BK422.out 3; have hfz52_4 := blk_frozen BK422.out 4))
      refine bodyPost_ret (results_cell_row rfl _ _ gb422 50 #[.int .i64 x424000_2, .int .i64 0, .int .i64 t428, .int .i64 t432, .slice Ao48 t436.length co48] (0, 0) _ rfl (by (with_reducible repeat (first | refine blk_drewN ?_ _ | refine blk_drew ?_ | refine blk_alloc ?_ _)); refine blk_put (cs := #[.int .i64 x424000_2, .int .i64 0, .int .i64 t428, .int .i64 t432, .slice none 0 0]) ?_ 4 _ rfl; (with_reducible repeat (first | refine blk_drewN ?_ _ | refine blk_drew ?_ | refine blk_alloc ?_ _)); refine blk_put (cs := #[.int .i64 x424000_2, .int .i64 0, .int .i64 t428, .int .i64 0, .slice none 0 0]) ?_ 3 _ rfl; (with_reducible repeat (first | refine blk_drewN ?_ _ | refine blk_drew ?_ | refine blk_alloc ?_ _)); refine blk_put (cs := #[.int .i64 x424000_2, .int .i64 0, .int .i64 0, .int .i64 0, .slice none 0 0]) ?_ 2 _ rfl; (with_reducible repeat (first | refine blk_drewN ?_ _ | refine blk_drew ?_ | refine blk_alloc ?_ _)); refine blk_put (cs := #[.int .i64 x424000_2, .int .i64 0, .int .i64 0, .int .i64 0, .slice none 0 0]) ?_ 1 _ rfl; (with_reducible repeat (first | refine blk_drewN ?_ _ | refine blk_drew ?_ | refine blk_alloc ?_ _)); refine blk_put (cs := #[.int .i64 0, .int .i64 0, .int .i64 0, .int .i64 0, .slice none 0 0]) ?_ 0 _ rfl; (with_reducible repeat (first | refine blk_drewN ?_ _ | refine blk_drew ?_ | refine blk_alloc ?_ _)); refine blk_far ?_ NB422_0.out _; (with_reducible repeat (first | refine blk_drewN ?_ _ | refine blk_drew ?_ | refine blk_alloc ?_ _)); refine blk_far ?_ NB422_423.out _; (with_reducible repeat (first | refine blk_drewN ?_ _ | refine blk_drew ?_ | refine blk_alloc ?_ _)); exact BK422.out) Try.underlying50 rfl (by kernel_rfl)) rfl ?_
      exact ⟨_, by first | rfl | (simp [errW_none, errW_some] <;> rfl) | (simp [*, errW_none, errW_some] <;> rfl), by (with_reducible repeat (first | apply Kd.R_alloc | apply Kd.R_drewN | apply Kd.R_drew)); exact Kd.R_mono (Kd.R_far (p := ⟨gb422, 4, none⟩) (Kd.R_far (p := ⟨gb422, 3, none⟩) (Kd.R_far (p := ⟨gb422, 2, none⟩) (Kd.R_far (p := ⟨gb422, 1, none⟩) (Kd.R_far (p := ⟨gb422, 0, none⟩) (Kd.R_far (p := ⟨g, 2, none⟩) (Kd.R_far (p := ⟨gb423, 4, none⟩) (Kd.R_types (IsS94.apart HI0.out (Kd.R_types HO438.out BK423.out (by decide)) (by decide)) BK422.out (by decide)) (fun _ hk => hk.1.1.2) (.slice Ao48 t436.length co48)) (fun _ hk => hk.1.2) (.bool true)) (fun _ hk => hk.2) (.int .i64 x424000_2)) (fun _ hk => hk.2) (.int .i64 0)) (fun _ hk => hk.2) (.int .i64 t428)) (fun _ hk => hk.2) (.int .i64 t432)) (fun _ hk => hk.2) (.slice Ao48 t436.length co48)) (fun _ hk => trivial), by repeat (first | (with_reducible first | exact HI0.out | apply IsS94.alloc | apply IsS94.drewN | apply IsS94.drew | apply IsS94.set_0 | apply IsS94.set_1 | refine IsS94.set_2 (f2 := true) ?_ _ | refine IsS94.far ?_ NB0_421.out _ | refine IsS94.far ?_ NB0_422.out _ | refine IsS94.far ?_ NB0_423.out _) | exact HI0.out), by repeat (first | (with_reducible first | exact HB.out | apply below_alloc | apply pw_below_drewN | apply below_drew1 | refine below_set ?_ (IsS94.ge HI0.out) | refine below_set ?_ GE421.out | refine below_set ?_ GE422.out | refine below_set ?_ GE423.out) | exact HB.out), by repeat (first | (with_reducible first | exact HK.out | apply KeepBut.set_ | apply keep_drewN | apply keep_drew | apply keep_alloc | refine keep_far ?_ GW421.out _ | refine keep_far ?_ GW422.out _ | refine keep_far ?_ GW423.out _) | exact HK.out)⟩
     ·replace c34 := Bool.eq_false_iff.mpr c34
      subst c34
      have H1 : ((impl_SquareOk.f kj2 x424000_2 0 t428 t432 t436).bind fun t442 => (some (x424000_2, 0, t428, t432, t436, t439, t440, !t442))) = some (r1, r2, r3, r4, r5, r6, r7, r8) := by rw [if_neg (show ¬ (false = true) by decide)] at H; exact H
      clear H
      have H := H1
      clear H1
      replace H := Option.bind_eq_some_iff.mp H
      obtain ⟨t442, A530, H⟩ := H
      replace H : (some (x424000_2, 0, t428, t432, t436, t439, t440, !t442)) = some (r1, r2, r3, r4, r5, r6, r7, r8) := H
      have A53 := Aside0.mk A530
      clear A530
      simp only [Option.some.injEq, Prod.mk.injEq] at H
      obtain ⟨rfl, rfl, rfl, rfl, rfl, rfl, rfl, rfl⟩ := H
      obtain ⟨HGz54, hgz54⟩ := HI0.out
      have hcz54_0 := cellS94_0 HGz54
      have hcz54_1 := cellS94_1 HGz54
      have hcz54_2 := cellS94_2 HGz54
      have hfz54_0 := blk_frozen HGz54 0
      have hfz54_1 := blk_frozen HGz54 1
      have hfz54_2 := blk_frozen HGz54 2
      clear HGz54 hgz54
      have hnb55 := NB423_421.out
      have hnc55 := NB421_423.out
      have hnb56 := NB423_422.out
      have hnc56 := NB422_423.out
      have hnb57 := NB423_0.out
      have hnc57 := NB0_423.out
      have hcz58_0 : wc.cell? ⟨gb423, 0, none⟩ = some (.int .i64 x424000_2) := (blk_cell BK423.out 0).trans rfl
      have hcz58_1 : wc.cell? ⟨gb423, 1, none⟩ = some (.int .i64 0) := (blk_cell BK423.out 1).trans rfl
      have hcz58_2 : wc.cell? ⟨gb423, 2, none⟩ = some (.int .i64 0) := (blk_cell BK423.out 2).trans rfl
      have hcz58_3 : wc.cell? ⟨gb423, 3, none⟩ = some (.int .i64 0) := (blk_cell BK423.out 3).trans rfl
      have hcz58_4 : wc.cell? ⟨gb423, 4, none⟩ = some (.slice none 0 0) := (blk_cell BK423.out 4).trans rfl
      have hfz58_0 := blk_frozen BK423.out 0
      have hfz58_1 := blk_frozen BK423.out 1
      have hfz58_2 := blk_frozen BK423.out 2
      have hfz58_3 := blk_frozen BK423.out 3
      have hfz58_4 := blk_frozen BK423.out 4
      go_wp2_with (first | ((with_reducible refine gate_callee (f := 122) rfl ?_); refine goesL_ (some 23) rfl rfl Try.func122 (by kernel_rfl) rfl #[.pointer (some ⟨g, 0, none⟩)] rfl (by (try simp only [List.map_toArray, List.map_cons, List.map_nil]); first | done | rfl | (simp only [List.length_drop, List.length_take]; rfl)) ?_; (with_reducible refine (impl_scan_se.calls kj2 g x1000_2 x1001_2 false t428 t429 t430 t431 w0 _ ?side1 ?side2 A31.out).mono ?_); (case side1 => repeat (first | (with_reducible first | exact HI0.out | apply IsS94.alloc | apply IsS94.drewN | apply IsS94.drew | apply IsS94.set_0 | apply IsS94.set_1 | apply IsS94.set_2 | refine IsS94.far ?_ NB0_421.out _ | refine IsS94.far ?_ NB0_422.out _ | refine IsS94.far ?_ NB0_423.out _) | exact HI0.out)); (case side2 => repeat (first | (with_reducible first | exact HB.out | apply below_alloc | apply pw_below_drewN | apply below_drew1 | refine below_set ?_ (IsS94.ge HI0.out) | refine below_set ?_ GE421.out | refine below_set ?_ GE422.out | refine below_set ?_ GE423.out) | exact HB.out)); rintro e w59 ⟨rfl, hi, hb, hk⟩; refine ⟨_, rfl, ?_⟩; have n0_ := Aside0.mk (KeepBut.blk hk (g' := gb421) (o := .cells #[.bool a1_0, .int .i64 a1_1, .bool a1_2, .bool a1_3] 40 (0, 0)) (by (with_reducible repeat (first | refine blk_drewN ?_ _ | refine blk_drew ?_ | refine blk_alloc ?_ _)); exact BK421.out) NB421_0.out (by simp)); have n1_ := Aside0.mk (KeepBut.blk hk (g' := gb422) (o := .cells #[.int .i64 0, .int .i64 0, .int .i64 0, .int .i64 0, .slice none 0 0] 50 (0, 0)) (by (with_reducible repeat (first | refine blk_drewN ?_ _ | refine blk_drew ?_ | refine blk_alloc ?_ _)); exact BK422.out) NB422_0.out (by simp)); have n2_ := Aside0.mk (KeepBut.blk hk (g' := gb423) (o := .cells #[.int .i64 x424000_2, .int .i64 0, .int .i64 0, .int .i64 0, .slice none 0 0] 50 (0, 0)) (by (with_reducible repeat (first | refine blk_drewN ?_ _ | refine blk_drew ?_ | refine blk_alloc ?_ _)); exact BK423.out) NB423_0.out (by simp)); have n3_ := Aside0.mk (KeepBut.trans (by repeat (first | (with_reducible first | exact HK.out | apply KeepBut.set_ | apply keep_drewN | apply keep_drew | apply keep_alloc | refine keep_far ?_ GW421.out _ | refine keep_far ?_ GW422.out _ | refine keep_far ?_ GW423.out _) | exact HK.out)) hk (.inl rfl)); have n4_ := Aside0.mk (hb); have n5_ := Aside0.mk (hi); clear BK421; clear BK422; clear BK423; clear HK; clear HB; clear HI0; have BK421 := n0_; have BK422 := n1_; have BK423 := n2_; have HK := n3_; have HB := n4_; have HI0 := n5_; clear n0_ n1_ n2_ n3_ n4_ n5_; (try clear hb); (try clear hb2); (try clear hk); (try clear hi); have hcz60_0 : w59.cell? ⟨gb423, 0, none⟩ = some (.int .i64 x424000_2) := (blk_cell BK423.out 0).trans rfl; have hcz60_1 : w59.cell? ⟨gb423, 1, none⟩ = some (.int .i64 0) := (blk_cell BK423.out 1).trans rfl; have hcz60_2 : w59.cell? ⟨gb423, 2, none⟩ = some (.int .i64 0) := (blk_cell BK423.out 2).trans rfl; have hcz60_3 : w59.cell? ⟨gb423, 3, none⟩ = some (.int .i64 0) := (blk_cell BK423.out 3).trans rfl; have hcz60_4 : w59.cell? ⟨gb423, 4, none⟩ = some (.slice none 0 0) := (blk_cell BK423.out 4).trans rfl; have hfz60_0 := blk_frozen BK423.out 0; have hfz60_1 := blk_frozen BK423.out 1; have hfz60_2 := blk_frozen BK423.out 2; have hfz60_3 := blk_frozen BK423.out 3; have hfz60_4 := blk_frozen BK423.out 4) | ((with_reducible refine gate_callee (f := 122) rfl ?_); refine goesL_ (some 26) rfl rfl Try.func122 (by kernel_rfl) rfl #[.pointer (some ⟨g, 0, none⟩)] rfl (by (try simp only [List.map_toArray, List.map_cons, List.map_nil]); first | done | rfl | (simp only [List.length_drop, List.length_take]; rfl)) ?_; (with_reducible refine (impl_scan_se.calls kj2 g t429 t430 t431 t432 t433 t434 t435 w0 _ ?side1 ?side2 A32.out).mono ?_); (case side1 => repeat (first | (with_reducible first | exact HI0.out | apply IsS94.alloc | apply IsS94.drewN | apply IsS94.drew | apply IsS94.set_0 | apply IsS94.set_1 | apply IsS94.set_2 | refine IsS94.far ?_ NB0_421.out _ | refine IsS94.far ?_ NB0_422.out _ | refine IsS94.far ?_ NB0_423.out _) | exact HI0.out)); (case side2 => repeat (first | (with_reducible first | exact HB.out | apply below_alloc | apply pw_below_drewN | apply below_drew1 | refine below_set ?_ (IsS94.ge HI0.out) | refine below_set ?_ GE421.out | refine below_set ?_ GE422.out | refine below_set ?_ GE423.out) | exact HB.out)); rintro e w61 ⟨rfl, hi, hb, hk⟩; refine ⟨_, rfl, ?_⟩; have n0_ := Aside0.mk (KeepBut.blk hk (g' := gb421) (o := .cells #[.bool a1_0, .int .i64 a1_1, .bool a1_2, .bool a1_3] 40 (0, 0)) (by (with_reducible repeat (first | refine blk_drewN ?_ _ | refine blk_drew ?_ | refine blk_alloc ?_ _)); refine blk_far ?_ NB421_423.out _; (with_reducible repeat (first | refine blk_drewN ?_ _ | refine blk_drew ?_ | refine blk_alloc ?_ _)); exact BK421.out) NB421_0.out (by simp)); have n1_ := Aside0.mk (KeepBut.blk hk (g' := gb422) (o := .cells #[.int .i64 0, .int .i64 0, .int .i64 0, .int .i64 0, .slice none 0 0] 50 (0, 0)) (by (with_reducible repeat (first | refine blk_drewN ?_ _ | refine blk_drew ?_ | refine blk_alloc ?_ _)); refine blk_far ?_ NB422_423.out _; (with_reducible repeat (first | refine blk_drewN ?_ _ | refine blk_drew ?_ | refine blk_alloc ?_ _)); exact BK422.out) NB422_0.out (by simp)); have n2_ := Aside0.mk (KeepBut.blk hk (g' := gb423) (o := .cells #[.int .i64 x424000_2, .int .i64 0, .int .i64 t428, .int .i64 0, .slice none 0 0] 50 (0, 0)) (by (with_reducible repeat (first | refine blk_drewN ?_ _ | refine blk_drew ?_ | refine blk_alloc ?_ _)); refine blk_put (cs := #[.int .i64 x424000_2, .int .i64 0, .int .i64 0, .int .i64 0, .slice none 0 0]) ?_ 2 _ rfl; (with_reducible repeat (first | refine blk_drewN ?_ _ | refine blk_drew ?_ | refine blk_alloc ?_ _)); exact BK423.out) NB423_0.out (by simp)); have n3_ := Aside0.mk (KeepBut.trans (by repeat (first | (with_reducible first | exact HK.out | apply KeepBut.set_ | apply keep_drewN | apply keep_drew | apply keep_alloc | refine keep_far ?_ GW421.out _ | refine keep_far ?_ GW422.out _ | refine keep_far ?_ GW423.out _) | exact HK.out)) hk (.inl rfl)); have n4_ := Aside0.mk (hb); have n5_ := Aside0.mk (hi); clear BK421; clear BK422; clear BK423; clear HK; clear HB; clear HI0; have BK421 := n0_; have BK422 := n1_; have BK423 := n2_; have HK := n3_; have HB := n4_; have HI0 := n5_; clear n0_ n1_ n2_ n3_ n4_ n5_; (try clear hb); (try clear hb2); (try clear hk); (try clear hi); have hcz62_0 : w61.cell? ⟨gb423, 0, none⟩ = some (.int .i64 x424000_2) := (blk_cell BK423.out 0).trans rfl; have hcz62_1 : w61.cell? ⟨gb423, 1, none⟩ = some (.int .i64 0) := (blk_cell BK423.out 1).trans rfl; have hcz62_2 : w61.cell? ⟨gb423, 2, none⟩ = some (.int .i64 t428) := (blk_cell BK423.out 2).trans rfl; have hcz62_3 : w61.cell? ⟨gb423, 3, none⟩ = some (.int .i64 0) := (blk_cell BK423.out 3).trans rfl; have hcz62_4 : w61.cell? ⟨gb423, 4, none⟩ = some (.slice none 0 0) := (blk_cell BK423.out 4).trans rfl; have hfz62_0 := blk_frozen BK423.out 0; have hfz62_1 := blk_frozen BK423.out 1; have hfz62_2 := blk_frozen BK423.out 2; have hfz62_3 := blk_frozen BK423.out 3; have hfz62_4 := blk_frozen BK423.out 4; have hnb63 := NB421_422.out; have hnc63 := NB422_421.out; have hnb64 := NB421_0.out; have hnc64 := NB0_421.out; have hcz65_0 : w61.cell? ⟨gb421, 0, none⟩ = some (.bool a1_0) := (blk_cell BK421.out 0).trans rfl; have hcz65_1 : w61.cell? ⟨gb421, 1, none⟩ = some (.int .i64 a1_1) := (blk_cell BK421.out 1).trans rfl; have hcz65_2 : w61.cell? ⟨gb421, 2, none⟩ = some (.bool a1_2) := (blk_cell BK421.out 2).trans rfl; have hcz65_3 : w61.cell? ⟨gb421, 3, none⟩ = some (.bool a1_3) := (blk_cell BK421.out 3).trans rfl; have hfz65_0 := blk_frozen BK421.out 0; have hfz65_1 := blk_frozen BK421.out 1; have hfz65_2 := blk_frozen BK421.out 2; have hfz65_3 := blk_frozen BK421.out 3) | ((with_reducible refine gate_callee (f := 112) rfl ?_); refine goesL_ (some 30) rfl rfl Try.func112 (by kernel_rfl) rfl #[.pointer (some ⟨g, 0, none⟩), .agg #[.bool a1_0, .int .i64 a1_1, .bool a1_2, .bool a1_3]] rfl (by (try simp only [List.map_toArray, List.map_cons, List.map_nil]); first | done | rfl | (simp only [List.length_drop, List.length_take]; rfl)) ?_; (with_reducible refine (impl_scan_levels.calls kj2 g t433 t434 t435 a1_0 a1_1 a1_2 a1_3 t436 t439 t440 false w0 _ ?side1 ?side2 A33.out).mono ?_); (case side1 => repeat (first | (with_reducible first | exact HI0.out | apply IsS94.alloc | apply IsS94.drewN | apply IsS94.drew | apply IsS94.set_0 | apply IsS94.set_1 | apply IsS94.set_2 | refine IsS94.far ?_ NB0_421.out _ | refine IsS94.far ?_ NB0_422.out _ | refine IsS94.far ?_ NB0_423.out _) | exact HI0.out)); (case side2 => repeat (first | (with_reducible first | exact HB.out | apply below_alloc | apply pw_below_drewN | apply below_drew1 | refine below_set ?_ (IsS94.ge HI0.out) | refine below_set ?_ GE421.out | refine below_set ?_ GE422.out | refine below_set ?_ GE423.out) | exact HB.out)); rintro e w66 ⟨v437, rfl, ho0, hi, hb, hk⟩; refine ⟨_, rfl, ?_⟩; have n0_ := Aside0.mk (KeepBut.blk hk (g' := gb421) (o := .cells #[.bool a1_0, .int .i64 a1_1, .bool a1_2, .bool a1_3] 40 (0, 0)) (by (with_reducible repeat (first | refine blk_drewN ?_ _ | refine blk_drew ?_ | refine blk_alloc ?_ _)); refine blk_far ?_ NB421_423.out _; (with_reducible repeat (first | refine blk_drewN ?_ _ | refine blk_drew ?_ | refine blk_alloc ?_ _)); exact BK421.out) NB421_0.out (by simp)); have n1_ := Aside0.mk (KeepBut.blk hk (g' := gb422) (o := .cells #[.int .i64 0, .int .i64 0, .int .i64 0, .int .i64 0, .slice none 0 0] 50 (0, 0)) (by (with_reducible repeat (first | refine blk_drewN ?_ _ | refine blk_drew ?_ | refine blk_alloc ?_ _)); refine blk_far ?_ NB422_423.out _; (with_reducible repeat (first | refine blk_drewN ?_ _ | refine blk_drew ?_ | refine blk_alloc ?_ _)); exact BK422.out) NB422_0.out (by simp)); have n2_ := Aside0.mk (KeepBut.blk hk (g' := gb423) (o := .cells #[.int .i64 x424000_2, .int .i64 0, .int .i64 t428, .int .i64 t432, .slice none 0 0] 50 (0, 0)) (by (with_reducible repeat (first | refine blk_drewN ?_ _ | refine blk_drew ?_ | refine blk_alloc ?_ _)); refine blk_put (cs := #[.int .i64 x424000_2, .int .i64 0, .int .i64 t428, .int .i64 0, .slice none 0 0]) ?_ 3 _ rfl; (with_reducible repeat (first | refine blk_drewN ?_ _ | refine blk_drew ?_ | refine blk_alloc ?_ _)); exact BK423.out) NB423_0.out (by simp)); have n3_ := Aside0.mk (Kd.R_lower ho0 (keep_size (w := w) (g := g) (row := none) (by repeat (first | (with_reducible first | exact HK.out | apply KeepBut.set_ | apply keep_drewN | apply keep_drew | apply keep_alloc | refine keep_far ?_ GW421.out _ | refine keep_far ?_ GW422.out _ | refine keep_far ?_ GW423.out _) | exact HK.out)))); have n4_ := Aside0.mk (KeepBut.trans (by repeat (first | (with_reducible first | exact HK.out | apply KeepBut.set_ | apply keep_drewN | apply keep_drew | apply keep_alloc | refine keep_far ?_ GW421.out _ | refine keep_far ?_ GW422.out _ | refine keep_far ?_ GW423.out _) | exact HK.out)) hk (.inl rfl)); have n5_ := Aside0.mk (hb); have n6_ := Aside0.mk (hi); clear BK421; clear BK422; clear BK423; clear HK; clear HB; clear HI0; have BK421 := n0_; have BK422 := n1_; have BK423 := n2_; have HO438 := n3_; have HK := n4_; have HB := n5_; have HI0 := n6_; clear n0_ n1_ n2_ n3_ n4_ n5_ n6_; (try clear hb); (try clear hb2); (try clear hk); (try clear hi); (try clear ho0); obtain ⟨Ao67, co67, eo67⟩ := Kd.R_slice HO438.out; subst eo67; have hcz68_0 : w66.cell? ⟨gb423, 0, none⟩ = some (.int .i64 x424000_2) := (blk_cell BK423.out 0).trans rfl; have hcz68_1 : w66.cell? ⟨gb423, 1, none⟩ = some (.int .i64 0) := (blk_cell BK423.out 1).trans rfl; have hcz68_2 : w66.cell? ⟨gb423, 2, none⟩ = some (.int .i64 t428) := (blk_cell BK423.out 2).trans rfl; have hcz68_3 : w66.cell? ⟨gb423, 3, none⟩ = some (.int .i64 t432) := (blk_cell BK423.out 3).trans rfl; have hcz68_4 : w66.cell? ⟨gb423, 4, none⟩ = some (.slice none 0 0) := (blk_cell BK423.out 4).trans rfl; have hfz68_0 := blk_frozen BK423.out 0; have hfz68_1 := blk_frozen BK423.out 1; have hfz68_2 := blk_frozen BK423.out 2; have hfz68_3 := blk_frozen BK423.out 3; have hfz68_4 := blk_frozen BK423.out 4; obtain ⟨HGz69, hgz69⟩ := HI0.out; have hcz69_0 := cellS94_0 HGz69; have hcz69_1 := cellS94_1 HGz69; have hcz69_2 := cellS94_2 HGz69; have hfz69_0 := blk_frozen HGz69 0; have hfz69_1 := blk_frozen HGz69 1; have hfz69_2 := blk_frozen HGz69 2; clear HGz69 hgz69) | (go_at_call 48; (with_reducible refine (impl_SquareOk.calls kj2 x424000_2 0 t428 t432 _ _ t436 t442 _ ?side1 ?side2 A53.out).mono ?_); (case side1 => refine (Kd.R_reads' (e := 3) (base := w.heap.size) (ok := fun k_ => True) (n := t436.length) (c := co67) ?_).2.2; exact (by (with_reducible repeat (first | apply Kd.R_alloc | apply Kd.R_drewN | apply Kd.R_drew)); exact (Kd.R_mono (Kd.R_far (p := ⟨gb423, 4, none⟩) (Kd.R_types HO438.out BK423.out (by decide)) (fun _ hk => hk.2) (.slice Ao67 t436.length co67)) (fun _ h_ => h_.1)))); (case side2 => exact (Kd.R_reads' HO438.out).2.1); rintro e w70 ⟨rfl, hb⟩; have n0_ := Aside0.mk (Kd.R_below (by (with_reducible repeat (first | apply Kd.R_alloc | apply Kd.R_drewN | apply Kd.R_drew)); exact (Kd.R_mono (Kd.R_far (p := ⟨gb423, 4, none⟩) (Kd.R_types HO438.out BK423.out (by decide)) (fun _ hk => hk.2) (.slice Ao67 t436.length co67)) (fun _ h_ => h_.1))) hb); have n1_ := Aside0.mk (blk_below (g := gb421) (o := .cells #[.bool a1_0, .int .i64 a1_1, .bool a1_2, .bool a1_3] 40 (0, 0)) (by (with_reducible repeat (first | refine blk_drewN ?_ _ | refine blk_drew ?_ | refine blk_alloc ?_ _)); refine blk_far ?_ NB421_423.out _; (with_reducible repeat (first | refine blk_drewN ?_ _ | refine blk_drew ?_ | refine blk_alloc ?_ _)); exact BK421.out) hb); have n2_ := Aside0.mk (blk_below (g := gb422) (o := .cells #[.int .i64 0, .int .i64 0, .int .i64 0, .int .i64 0, .slice none 0 0] 50 (0, 0)) (by (with_reducible repeat (first | refine blk_drewN ?_ _ | refine blk_drew ?_ | refine blk_alloc ?_ _)); refine blk_far ?_ NB422_423.out _; (with_reducible repeat (first | refine blk_drewN ?_ _ | refine blk_drew ?_ | refine blk_alloc ?_ _)); exact BK422.out) hb); have n3_ := Aside0.mk (blk_below (g := gb423) (o := .cells #[.int .i64 x424000_2, .int .i64 0, .int .i64 t428, .int .i64 t432, .slice Ao67 t436.length co67] 50 (0, 0)) (by (with_reducible repeat (first | refine blk_drewN ?_ _ | refine blk_drew ?_ | refine blk_alloc ?_ _)); refine blk_put (cs := #[.int .i64 x424000_2, .int .i64 0, .int .i64 t428, .int .i64 t432, .slice none 0 0]) ?_ 4 _ rfl; (with_reducible repeat (first | refine blk_drewN ?_ _ | refine blk_drew ?_ | refine blk_alloc ?_ _)); exact BK423.out) hb); have n4_ := Aside0.mk (IsS94.below (show IsS94 w0 (w66.setCell ⟨gb423, 4, none⟩ (.slice Ao67 t436.length co67)) g t439 t440 false from by repeat (first | (with_reducible first | exact HI0.out | apply IsS94.alloc | apply IsS94.drewN | apply IsS94.drew | apply IsS94.set_0 | apply IsS94.set_1 | apply IsS94.set_2 | refine IsS94.far ?_ NB0_421.out _ | refine IsS94.far ?_ NB0_422.out _ | refine IsS94.far ?_ NB0_423.out _) | exact HI0.out)) hb); have n5_ := Aside0.mk (KeepBut.trans (by repeat (first | (with_reducible first | exact HK.out | apply KeepBut.set_ | apply keep_drewN | apply keep_drew | apply keep_alloc | refine keep_far ?_ GW421.out _ | refine keep_far ?_ GW422.out _ | refine keep_far ?_ GW423.out _) | exact HK.out)) (KeepBut.of_below hb g none) (.inl rfl)); have n6_ := Aside0.mk (below_step (by repeat (first | (with_reducible first | exact HB.out | apply below_alloc | apply pw_below_drewN | apply below_drew1 | refine below_set ?_ (IsS94.ge HI0.out) | refine below_set ?_ GE421.out | refine below_set ?_ GE422.out | refine below_set ?_ GE423.out) | exact HB.out)) hb); clear HO438; clear BK421; clear BK422; clear BK423; clear HI0; clear HK; clear HB; have HO438 := n0_; have BK421 := n1_; have BK422 := n2_; have BK423 := n3_; have HI0 := n4_; have HK := n5_; have HB := n6_; clear n0_ n1_ n2_ n3_ n4_ n5_ n6_; (try clear hb); (try clear hb2); (try clear hk); (try clear hi); obtain ⟨HGz71, hgz71⟩ := HI0.out; have hcz71_0 := cellS94_0 HGz71; have hcz71_1 := cellS94_1 HGz71; have hcz71_2 := cellS94_2 HGz71; have hfz71_0 := blk_frozen HGz71 0; have hfz71_1 := blk_frozen HGz71 1; have hfz71_2 := blk_frozen HGz71 2; clear HGz71 hgz71; have hcz72_0 : w70.cell? ⟨gb423, 0, none⟩ = some (.int .i64 x424000_2) := (blk_cell BK423.out 0).trans rfl; have hcz72_1 : w70.cell? ⟨gb423, 1, none⟩ = some (.int .i64 0) := (blk_cell BK423.out 1).trans rfl; have hcz72_2 : w70.cell? ⟨gb423, 2, none⟩ = some (.int .i64 t428) := (blk_cell BK423.out 2).trans rfl; have hcz72_3 : w70.cell? ⟨gb423, 3, none⟩ = some (.int .i64 t432) := (blk_cell BK423.out 3).trans rfl; have hcz72_4 : w70.cell? ⟨gb423, 4, none⟩ = some (.slice Ao67 t436.length co67) := (blk_cell BK423.out 4).trans rfl; have hfz72_0 := blk_frozen BK423.out 0; have hfz72_1 := blk_frozen BK423.out 1; have hfz72_2 := blk_frozen BK423.out 2; have hfz72_3 := blk_frozen BK423.out 3; have hfz72_4 := blk_frozen BK423.out 4; have hnb73 := NB422_0.out; have hnc73 := NB0_422.out; have hcz74_0 : w70.cell? ⟨gb422, 0, none⟩ = some (.int .i64 0) := (blk_cell BK422.out 0).trans rfl; have hcz74_1 : w70.cell? ⟨gb422, 1, none⟩ = some (.int .i64 0) := (blk_cell BK422.out 1).trans rfl; have hcz74_2 : w70.cell? ⟨gb422, 2, none⟩ = some (.int .i64 0) := (blk_cell BK422.out 2).trans rfl; have hcz74_3 : w70.cell? ⟨gb422, 3, none⟩ = some (.int .i64 0) := (blk_cell BK422.out 3).trans rfl; have hcz74_4 : w70.cell? ⟨gb422, 4, none⟩ = some (.slice none 0 0) := (blk_cell BK422.out 4).trans rfl; have hfz74_0 := blk_frozen BK422.out 0; have hfz74_1 := blk_frozen BK422.out 1; have hfz74_2 := blk_frozen BK422.out 2; have hfz74_3 := blk_frozen BK422.out 3; have hfz74_4 := blk_frozen BK422.out 4))
      refine bodyPost_ret (results_cell_row rfl _ _ gb422 50 #[.int .i64 x424000_2, .int .i64 0, .int .i64 t428, .int .i64 t432, .slice Ao67 t436.length co67] (0, 0) _ rfl (by (with_reducible repeat (first | refine blk_drewN ?_ _ | refine blk_drew ?_ | refine blk_alloc ?_ _)); refine blk_put (cs := #[.int .i64 x424000_2, .int .i64 0, .int .i64 t428, .int .i64 t432, .slice none 0 0]) ?_ 4 _ rfl; (with_reducible repeat (first | refine blk_drewN ?_ _ | refine blk_drew ?_ | refine blk_alloc ?_ _)); refine blk_put (cs := #[.int .i64 x424000_2, .int .i64 0, .int .i64 t428, .int .i64 0, .slice none 0 0]) ?_ 3 _ rfl; (with_reducible repeat (first | refine blk_drewN ?_ _ | refine blk_drew ?_ | refine blk_alloc ?_ _)); refine blk_put (cs := #[.int .i64 x424000_2, .int .i64 0, .int .i64 0, .int .i64 0, .slice none 0 0]) ?_ 2 _ rfl; (with_reducible repeat (first | refine blk_drewN ?_ _ | refine blk_drew ?_ | refine blk_alloc ?_ _)); refine blk_put (cs := #[.int .i64 x424000_2, .int .i64 0, .int .i64 0, .int .i64 0, .slice none 0 0]) ?_ 1 _ rfl; (with_reducible repeat (first | refine blk_drewN ?_ _ | refine blk_drew ?_ | refine blk_alloc ?_ _)); refine blk_put (cs := #[.int .i64 0, .int .i64 0, .int .i64 0, .int .i64 0, .slice none 0 0]) ?_ 0 _ rfl; (with_reducible repeat (first | refine blk_drewN ?_ _ | refine blk_drew ?_ | refine blk_alloc ?_ _)); refine blk_far ?_ NB422_0.out _; (with_reducible repeat (first | refine blk_drewN ?_ _ | refine blk_drew ?_ | refine blk_alloc ?_ _)); exact BK422.out) Try.underlying50 rfl (by kernel_rfl)) rfl ?_
      exact ⟨_, by first | rfl | (simp [errW_none, errW_some] <;> rfl) | (simp [*, errW_none, errW_some] <;> rfl), by (with_reducible repeat (first | apply Kd.R_alloc | apply Kd.R_drewN | apply Kd.R_drew)); exact Kd.R_mono (Kd.R_far (p := ⟨gb422, 4, none⟩) (Kd.R_far (p := ⟨gb422, 3, none⟩) (Kd.R_far (p := ⟨gb422, 2, none⟩) (Kd.R_far (p := ⟨gb422, 1, none⟩) (Kd.R_far (p := ⟨gb422, 0, none⟩) (Kd.R_far (p := ⟨g, 2, none⟩) (Kd.R_types (IsS94.apart HI0.out HO438.out (by decide)) BK422.out (by decide)) (fun _ hk => hk.1.2) (.bool (!t442))) (fun _ hk => hk.2) (.int .i64 x424000_2)) (fun _ hk => hk.2) (.int .i64 0)) (fun _ hk => hk.2) (.int .i64 t428)) (fun _ hk => hk.2) (.int .i64 t432)) (fun _ hk => hk.2) (.slice Ao67 t436.length co67)) (fun _ hk => trivial), by repeat (first | (with_reducible first | exact HI0.out | apply IsS94.alloc | apply IsS94.drewN | apply IsS94.drew | apply IsS94.set_0 | apply IsS94.set_1 | apply IsS94.set_2 | refine IsS94.far ?_ NB0_421.out _ | refine IsS94.far ?_ NB0_422.out _ | refine IsS94.far ?_ NB0_423.out _) | exact HI0.out), by repeat (first | (with_reducible first | exact HB.out | apply below_alloc | apply pw_below_drewN | apply below_drew1 | refine below_set ?_ (IsS94.ge HI0.out) | refine below_set ?_ GE421.out | refine below_set ?_ GE422.out | refine below_set ?_ GE423.out) | exact HB.out), by repeat (first | (with_reducible first | exact HK.out | apply KeepBut.set_ | apply keep_drewN | apply keep_drew | apply keep_alloc | refine keep_far ?_ GW421.out _ | refine keep_far ?_ GW422.out _ | refine keep_far ?_ GW423.out _) | exact HK.out)⟩
    ·rw [if_neg c30] at H
     have c30b0 : (x424000_2 == 1) = false := beq_eq_false_iff_ne.mpr c30
     have c30b1 : (x424000_2 != 1) = true := bne_iff_ne.mpr c30
     by_cases c75 : x424000_2 = 2
     ·rw [if_pos c75] at H
      have c75b0 : (x424000_2 == 2) = true := beq_iff_eq.mpr c75
      have c75b1 : (x424000_2 != 2) = false := bne_eq_false_iff_eq.mpr c75
      clear c75
      replace H := Option.bind_eq_some_iff.mp H
      obtain ⟨⟨t443, t444, t445, t446⟩, A760, H⟩ := H
      replace H : ((impl_scan_levels.f kj2 t444 t445 t446 a1_0 a1_1 a1_2 a1_3).bind fun bt447 => (if bt447.2.2.2 = true then (some (x424000_2, t443, 0, 0, bt447.1, bt447.2.1, bt447.2.2.1, true)) else ((impl_SquareOk.f kj2 x424000_2 t443 0 0 bt447.1).bind fun t453 => (some (x424000_2, t443, 0, 0, bt447.1, bt447.2.1, bt447.2.2.1, !t453))))) = some (r1, r2, r3, r4, r5, r6, r7, r8) := H
      have A76 := Aside0.mk A760
      clear A760
      replace H := Option.bind_eq_some_iff.mp H
      obtain ⟨⟨t447, t450, t451, t452⟩, A770, H⟩ := H
      replace H : (if t452 = true then (some (x424000_2, t443, 0, 0, t447, t450, t451, true)) else ((impl_SquareOk.f kj2 x424000_2 t443 0 0 t447).bind fun t453 => (some (x424000_2, t443, 0, 0, t447, t450, t451, !t453)))) = some (r1, r2, r3, r4, r5, r6, r7, r8) := H
      have A77 := Aside0.mk A770
      clear A770
      by_cases c78 : t452 = true
      ·subst c78
       have H1 : (some (x424000_2, t443, 0, 0, t447, t450, t451, true)) = some (r1, r2, r3, r4, r5, r6, r7, r8) := by rw [if_pos rfl] at H; exact H
       clear H
       have H := H1
       clear H1
       simp only [Option.some.injEq, Prod.mk.injEq] at H
       obtain ⟨rfl, rfl, rfl, rfl, rfl, rfl, rfl, rfl⟩ := H
       obtain ⟨HGz79, hgz79⟩ := HI0.out
       have hcz79_0 := cellS94_0 HGz79
       have hcz79_1 := cellS94_1 HGz79
       have hcz79_2 := cellS94_2 HGz79
       have hfz79_0 := blk_frozen HGz79 0
       have hfz79_1 := blk_frozen HGz79 1
       have hfz79_2 := blk_frozen HGz79 2
       clear HGz79 hgz79
       have hnb80 := NB423_421.out
       have hnc80 := NB421_423.out
       have hnb81 := NB423_422.out
       have hnc81 := NB422_423.out
       have hnb82 := NB423_0.out
       have hnc82 := NB0_423.out
       have hcz83_0 : wc.cell? ⟨gb423, 0, none⟩ = some (.int .i64 x424000_2) := (blk_cell BK423.out 0).trans rfl
       have hcz83_1 : wc.cell? ⟨gb423, 1, none⟩ = some (.int .i64 0) := (blk_cell BK423.out 1).trans rfl
       have hcz83_2 : wc.cell? ⟨gb423, 2, none⟩ = some (.int .i64 0) := (blk_cell BK423.out 2).trans rfl
       have hcz83_3 : wc.cell? ⟨gb423, 3, none⟩ = some (.int .i64 0) := (blk_cell BK423.out 3).trans rfl
       have hcz83_4 : wc.cell? ⟨gb423, 4, none⟩ = some (.slice none 0 0) := (blk_cell BK423.out 4).trans rfl
       have hfz83_0 := blk_frozen BK423.out 0
       have hfz83_1 := blk_frozen BK423.out 1
       have hfz83_2 := blk_frozen BK423.out 2
       have hfz83_3 := blk_frozen BK423.out 3
       have hfz83_4 := blk_frozen BK423.out 4
       go_wp2_with (first | ((with_reducible refine gate_callee (f := 121) rfl ?_); refine goesL_ (some 37) rfl rfl Try.func121 (by kernel_rfl) rfl #[.pointer (some ⟨g, 0, none⟩)] rfl (by (try simp only [List.map_toArray, List.map_cons, List.map_nil]); first | done | rfl | (simp only [List.length_drop, List.length_take]; rfl)) ?_; (with_reducible refine (impl_scan_ue.calls kj2 g x1000_2 x1001_2 false t443 t444 t445 t446 w0 _ ?side1 ?side2 A76.out).mono ?_); (case side1 => repeat (first | (with_reducible first | exact HI0.out | apply IsS94.alloc | apply IsS94.drewN | apply IsS94.drew | apply IsS94.set_0 | apply IsS94.set_1 | apply IsS94.set_2 | refine IsS94.far ?_ NB0_421.out _ | refine IsS94.far ?_ NB0_422.out _ | refine IsS94.far ?_ NB0_423.out _) | exact HI0.out)); (case side2 => repeat (first | (with_reducible first | exact HB.out | apply below_alloc | apply pw_below_drewN | apply below_drew1 | refine below_set ?_ (IsS94.ge HI0.out) | refine below_set ?_ GE421.out | refine below_set ?_ GE422.out | refine below_set ?_ GE423.out) | exact HB.out)); rintro e w84 ⟨rfl, hi, hb, hk⟩; refine ⟨_, rfl, ?_⟩; have n0_ := Aside0.mk (KeepBut.blk hk (g' := gb421) (o := .cells #[.bool a1_0, .int .i64 a1_1, .bool a1_2, .bool a1_3] 40 (0, 0)) (by (with_reducible repeat (first | refine blk_drewN ?_ _ | refine blk_drew ?_ | refine blk_alloc ?_ _)); exact BK421.out) NB421_0.out (by simp)); have n1_ := Aside0.mk (KeepBut.blk hk (g' := gb422) (o := .cells #[.int .i64 0, .int .i64 0, .int .i64 0, .int .i64 0, .slice none 0 0] 50 (0, 0)) (by (with_reducible repeat (first | refine blk_drewN ?_ _ | refine blk_drew ?_ | refine blk_alloc ?_ _)); exact BK422.out) NB422_0.out (by simp)); have n2_ := Aside0.mk (KeepBut.blk hk (g' := gb423) (o := .cells #[.int .i64 x424000_2, .int .i64 0, .int .i64 0, .int .i64 0, .slice none 0 0] 50 (0, 0)) (by (with_reducible repeat (first | refine blk_drewN ?_ _ | refine blk_drew ?_ | refine blk_alloc ?_ _)); exact BK423.out) NB423_0.out (by simp)); have n3_ := Aside0.mk (KeepBut.trans (by repeat (first | (with_reducible first | exact HK.out | apply KeepBut.set_ | apply keep_drewN | apply keep_drew | apply keep_alloc | refine keep_far ?_ GW421.out _ | refine keep_far ?_ GW422.out _ | refine keep_far ?_ GW423.out _) | exact HK.out)) hk (.inl rfl)); have n4_ := Aside0.mk (hb); have n5_ := Aside0.mk (hi); clear BK421; clear BK422; clear BK423; clear HK; clear HB; clear HI0; have BK421 := n0_; have BK422 := n1_; have BK423 := n2_; have HK := n3_; have HB := n4_; have HI0 := n5_; clear n0_ n1_ n2_ n3_ n4_ n5_; (try clear hb); (try clear hb2); (try clear hk); (try clear hi); have hcz85_0 : w84.cell? ⟨gb423, 0, none⟩ = some (.int .i64 x424000_2) := (blk_cell BK423.out 0).trans rfl; have hcz85_1 : w84.cell? ⟨gb423, 1, none⟩ = some (.int .i64 0) := (blk_cell BK423.out 1).trans rfl; have hcz85_2 : w84.cell? ⟨gb423, 2, none⟩ = some (.int .i64 0) := (blk_cell BK423.out 2).trans rfl; have hcz85_3 : w84.cell? ⟨gb423, 3, none⟩ = some (.int .i64 0) := (blk_cell BK423.out 3).trans rfl; have hcz85_4 : w84.cell? ⟨gb423, 4, none⟩ = some (.slice none 0 0) := (blk_cell BK423.out 4).trans rfl; have hfz85_0 := blk_frozen BK423.out 0; have hfz85_1 := blk_frozen BK423.out 1; have hfz85_2 := blk_frozen BK423.out 2; have hfz85_3 := blk_frozen BK423.out 3; have hfz85_4 := blk_frozen BK423.out 4; have hnb86 := NB421_422.out; have hnc86 := NB422_421.out; have hnb87 := NB421_0.out; have hnc87 := NB0_421.out; have hcz88_0 : w84.cell? ⟨gb421, 0, none⟩ = some (.bool a1_0) := (blk_cell BK421.out 0).trans rfl; have hcz88_1 : w84.cell? ⟨gb421, 1, none⟩ = some (.int .i64 a1_1) := (blk_cell BK421.out 1).trans rfl; have hcz88_2 : w84.cell? ⟨gb421, 2, none⟩ = some (.bool a1_2) := (blk_cell BK421.out 2).trans rfl; have hcz88_3 : w84.cell? ⟨gb421, 3, none⟩ = some (.bool a1_3) := (blk_cell BK421.out 3).trans rfl; have hfz88_0 := blk_frozen BK421.out 0; have hfz88_1 := blk_frozen BK421.out 1; have hfz88_2 := blk_frozen BK421.out 2; have hfz88_3 := blk_frozen BK421.out 3) | ((with_reducible refine gate_callee (f := 112) rfl ?_); refine goesL_ (some 41) rfl rfl Try.func112 (by kernel_rfl) rfl #[.pointer (some ⟨g, 0, none⟩), .agg #[.bool a1_0, .int .i64 a1_1, .bool a1_2, .bool a1_3]] rfl (by (try simp only [List.map_toArray, List.map_cons, List.map_nil]); first | done | rfl | (simp only [List.length_drop, List.length_take]; rfl)) ?_; (with_reducible refine (impl_scan_levels.calls kj2 g t444 t445 t446 a1_0 a1_1 a1_2 a1_3 t447 t450 t451 true w0 _ ?side1 ?side2 A77.out).mono ?_); (case side1 => repeat (first | (with_reducible first | exact HI0.out | apply IsS94.alloc | apply IsS94.drewN | apply IsS94.drew | apply IsS94.set_0 | apply IsS94.set_1 | apply IsS94.set_2 | refine IsS94.far ?_ NB0_421.out _ | refine IsS94.far ?_ NB0_422.out _ | refine IsS94.far ?_ NB0_423.out _) | exact HI0.out)); (case side2 => repeat (first | (with_reducible first | exact HB.out | apply below_alloc | apply pw_below_drewN | apply below_drew1 | refine below_set ?_ (IsS94.ge HI0.out) | refine below_set ?_ GE421.out | refine below_set ?_ GE422.out | refine below_set ?_ GE423.out) | exact HB.out)); rintro e w89 ⟨v448, rfl, ho0, hi, hb, hk⟩; refine ⟨_, rfl, ?_⟩; have n0_ := Aside0.mk (KeepBut.blk hk (g' := gb421) (o := .cells #[.bool a1_0, .int .i64 a1_1, .bool a1_2, .bool a1_3] 40 (0, 0)) (by (with_reducible repeat (first | refine blk_drewN ?_ _ | refine blk_drew ?_ | refine blk_alloc ?_ _)); refine blk_far ?_ NB421_423.out _; (with_reducible repeat (first | refine blk_drewN ?_ _ | refine blk_drew ?_ | refine blk_alloc ?_ _)); exact BK421.out) NB421_0.out (by simp)); have n1_ := Aside0.mk (KeepBut.blk hk (g' := gb422) (o := .cells #[.int .i64 0, .int .i64 0, .int .i64 0, .int .i64 0, .slice none 0 0] 50 (0, 0)) (by (with_reducible repeat (first | refine blk_drewN ?_ _ | refine blk_drew ?_ | refine blk_alloc ?_ _)); refine blk_far ?_ NB422_423.out _; (with_reducible repeat (first | refine blk_drewN ?_ _ | refine blk_drew ?_ | refine blk_alloc ?_ _)); exact BK422.out) NB422_0.out (by simp)); have n2_ := Aside0.mk (KeepBut.blk hk (g' := gb423) (o := .cells #[.int .i64 x424000_2, .int .i64 t443, .int .i64 0, .int .i64 0, .slice none 0 0] 50 (0, 0)) (by (with_reducible repeat (first | refine blk_drewN ?_ _ | refine blk_drew ?_ | refine blk_alloc ?_ _)); refine blk_put (cs := #[.int .i64 x424000_2, .int .i64 0, .int .i64 0, .int .i64 0, .slice none 0 0]) ?_ 1 _ rfl; (with_reducible repeat (first | refine blk_drewN ?_ _ | refine blk_drew ?_ | refine blk_alloc ?_ _)); exact BK423.out) NB423_0.out (by simp)); have n3_ := Aside0.mk (Kd.R_lower ho0 (keep_size (w := w) (g := g) (row := none) (by repeat (first | (with_reducible first | exact HK.out | apply KeepBut.set_ | apply keep_drewN | apply keep_drew | apply keep_alloc | refine keep_far ?_ GW421.out _ | refine keep_far ?_ GW422.out _ | refine keep_far ?_ GW423.out _) | exact HK.out)))); have n4_ := Aside0.mk (KeepBut.trans (by repeat (first | (with_reducible first | exact HK.out | apply KeepBut.set_ | apply keep_drewN | apply keep_drew | apply keep_alloc | refine keep_far ?_ GW421.out _ | refine keep_far ?_ GW422.out _ | refine keep_far ?_ GW423.out _) | exact HK.out)) hk (.inl rfl)); have n5_ := Aside0.mk (hb); have n6_ := Aside0.mk (hi); clear BK421; clear BK422; clear BK423; clear HK; clear HB; clear HI0; have BK421 := n0_; have BK422 := n1_; have BK423 := n2_; have HO449 := n3_; have HK := n4_; have HB := n5_; have HI0 := n6_; clear n0_ n1_ n2_ n3_ n4_ n5_ n6_; (try clear hb); (try clear hb2); (try clear hk); (try clear hi); (try clear ho0); obtain ⟨Ao90, co90, eo90⟩ := Kd.R_slice HO449.out; subst eo90; have hcz91_0 : w89.cell? ⟨gb423, 0, none⟩ = some (.int .i64 x424000_2) := (blk_cell BK423.out 0).trans rfl; have hcz91_1 : w89.cell? ⟨gb423, 1, none⟩ = some (.int .i64 t443) := (blk_cell BK423.out 1).trans rfl; have hcz91_2 : w89.cell? ⟨gb423, 2, none⟩ = some (.int .i64 0) := (blk_cell BK423.out 2).trans rfl; have hcz91_3 : w89.cell? ⟨gb423, 3, none⟩ = some (.int .i64 0) := (blk_cell BK423.out 3).trans rfl; have hcz91_4 : w89.cell? ⟨gb423, 4, none⟩ = some (.slice none 0 0) := (blk_cell BK423.out 4).trans rfl; have hfz91_0 := blk_frozen BK423.out 0; have hfz91_1 := blk_frozen BK423.out 1; have hfz91_2 := blk_frozen BK423.out 2; have hfz91_3 := blk_frozen BK423.out 3; have hfz91_4 := blk_frozen BK423.out 4; obtain ⟨HGz92, hgz92⟩ := HI0.out; have hcz92_0 := cellS94_0 HGz92; have hcz92_1 := cellS94_1 HGz92; have hcz92_2 := cellS94_2 HGz92; have hfz92_0 := blk_frozen HGz92 0; have hfz92_1 := blk_frozen HGz92 1; have hfz92_2 := blk_frozen HGz92 2; clear HGz92 hgz92; have hnb93 := NB422_0.out; have hnc93 := NB0_422.out; have hcz94_0 : w89.cell? ⟨gb422, 0, none⟩ = some (.int .i64 0) := (blk_cell BK422.out 0).trans rfl; have hcz94_1 : w89.cell? ⟨gb422, 1, none⟩ = some (.int .i64 0) := (blk_cell BK422.out 1).trans rfl; have hcz94_2 : w89.cell? ⟨gb422, 2, none⟩ = some (.int .i64 0) := (blk_cell BK422.out 2).trans rfl; have hcz94_3 : w89.cell? ⟨gb422, 3, none⟩ = some (.int .i64 0) := (blk_cell BK422.out 3).trans rfl; have hcz94_4 : w89.cell? ⟨gb422, 4, none⟩ = some (.slice none 0 0) := (blk_cell BK422.out 4).trans rfl; have hfz94_0 := blk_frozen BK422.out 0; have hfz94_1 := blk_frozen BK422.out 1; have hfz94_2 := blk_frozen BK422.out 2; have hfz94_3 := blk_frozen BK422.out 3; have hfz94_4 := blk_frozen BK422.out 4))
       refine bodyPost_ret (results_cell_row rfl _ _ gb422 50 #[.int .i64 x424000_2, .int .i64 t443, .int .i64 0, .int .i64 0, .slice Ao90 t447.length co90] (0, 0) _ rfl (by (with_reducible repeat (first | refine blk_drewN ?_ _ | refine blk_drew ?_ | refine blk_alloc ?_ _)); refine blk_put (cs := #[.int .i64 x424000_2, .int .i64 t443, .int .i64 0, .int .i64 0, .slice none 0 0]) ?_ 4 _ rfl; (with_reducible repeat (first | refine blk_drewN ?_ _ | refine blk_drew ?_ | refine blk_alloc ?_ _)); refine blk_put (cs := #[.int .i64 x424000_2, .int .i64 t443, .int .i64 0, .int .i64 0, .slice none 0 0]) ?_ 3 _ rfl; (with_reducible repeat (first | refine blk_drewN ?_ _ | refine blk_drew ?_ | refine blk_alloc ?_ _)); refine blk_put (cs := #[.int .i64 x424000_2, .int .i64 t443, .int .i64 0, .int .i64 0, .slice none 0 0]) ?_ 2 _ rfl; (with_reducible repeat (first | refine blk_drewN ?_ _ | refine blk_drew ?_ | refine blk_alloc ?_ _)); refine blk_put (cs := #[.int .i64 x424000_2, .int .i64 0, .int .i64 0, .int .i64 0, .slice none 0 0]) ?_ 1 _ rfl; (with_reducible repeat (first | refine blk_drewN ?_ _ | refine blk_drew ?_ | refine blk_alloc ?_ _)); refine blk_put (cs := #[.int .i64 0, .int .i64 0, .int .i64 0, .int .i64 0, .slice none 0 0]) ?_ 0 _ rfl; (with_reducible repeat (first | refine blk_drewN ?_ _ | refine blk_drew ?_ | refine blk_alloc ?_ _)); refine blk_far ?_ NB422_0.out _; (with_reducible repeat (first | refine blk_drewN ?_ _ | refine blk_drew ?_ | refine blk_alloc ?_ _)); refine blk_far ?_ NB422_423.out _; (with_reducible repeat (first | refine blk_drewN ?_ _ | refine blk_drew ?_ | refine blk_alloc ?_ _)); exact BK422.out) Try.underlying50 rfl (by kernel_rfl)) rfl ?_
       exact ⟨_, by first | rfl | (simp [errW_none, errW_some] <;> rfl) | (simp [*, errW_none, errW_some] <;> rfl), by (with_reducible repeat (first | apply Kd.R_alloc | apply Kd.R_drewN | apply Kd.R_drew)); exact Kd.R_mono (Kd.R_far (p := ⟨gb422, 4, none⟩) (Kd.R_far (p := ⟨gb422, 3, none⟩) (Kd.R_far (p := ⟨gb422, 2, none⟩) (Kd.R_far (p := ⟨gb422, 1, none⟩) (Kd.R_far (p := ⟨gb422, 0, none⟩) (Kd.R_far (p := ⟨g, 2, none⟩) (Kd.R_far (p := ⟨gb423, 4, none⟩) (Kd.R_types (IsS94.apart HI0.out (Kd.R_types HO449.out BK423.out (by decide)) (by decide)) BK422.out (by decide)) (fun _ hk => hk.1.1.2) (.slice Ao90 t447.length co90)) (fun _ hk => hk.1.2) (.bool true)) (fun _ hk => hk.2) (.int .i64 x424000_2)) (fun _ hk => hk.2) (.int .i64 t443)) (fun _ hk => hk.2) (.int .i64 0)) (fun _ hk => hk.2) (.int .i64 0)) (fun _ hk => hk.2) (.slice Ao90 t447.length co90)) (fun _ hk => trivial), by repeat (first | (with_reducible first | exact HI0.out | apply IsS94.alloc | apply IsS94.drewN | apply IsS94.drew | apply IsS94.set_0 | apply IsS94.set_1 | refine IsS94.set_2 (f2 := true) ?_ _ | refine IsS94.far ?_ NB0_421.out _ | refine IsS94.far ?_ NB0_422.out _ | refine IsS94.far ?_ NB0_423.out _) | exact HI0.out), by repeat (first | (with_reducible first | exact HB.out | apply below_alloc | apply pw_below_drewN | apply below_drew1 | refine below_set ?_ (IsS94.ge HI0.out) | refine below_set ?_ GE421.out | refine below_set ?_ GE422.out | refine below_set ?_ GE423.out) | exact HB.out), by repeat (first | (with_reducible first | exact HK.out | apply KeepBut.set_ | apply keep_drewN | apply keep_drew | apply keep_alloc | refine keep_far ?_ GW421.out _ | refine keep_far ?_ GW422.out _ | refine keep_far ?_ GW423.out _) | exact HK.out)⟩
      ·replace c78 := Bool.eq_false_iff.mpr c78
       subst c78
       have H1 : ((impl_SquareOk.f kj2 x424000_2 t443 0 0 t447).bind fun t453 => (some (x424000_2, t443, 0, 0, t447, t450, t451, !t453))) = some (r1, r2, r3, r4, r5, r6, r7, r8) := by rw [if_neg (show ¬ (false = true) by decide)] at H; exact H
       clear H
       have H := H1
       clear H1
       replace H := Option.bind_eq_some_iff.mp H
       obtain ⟨t453, A950, H⟩ := H
       replace H : (some (x424000_2, t443, 0, 0, t447, t450, t451, !t453)) = some (r1, r2, r3, r4, r5, r6, r7, r8) := H
       have A95 := Aside0.mk A950
       clear A950
       simp only [Option.some.injEq, Prod.mk.injEq] at H
       obtain ⟨rfl, rfl, rfl, rfl, rfl, rfl, rfl, rfl⟩ := H
       obtain ⟨HGz96, hgz96⟩ := HI0.out
       have hcz96_0 := cellS94_0 HGz96
       have hcz96_1 := cellS94_1 HGz96
       have hcz96_2 := cellS94_2 HGz96
       have hfz96_0 := blk_frozen HGz96 0
       have hfz96_1 := blk_frozen HGz96 1
       have hfz96_2 := blk_frozen HGz96 2
       clear HGz96 hgz96
       have hnb97 := NB423_421.out
       have hnc97 := NB421_423.out
       have hnb98 := NB423_422.out
       have hnc98 := NB422_423.out
       have hnb99 := NB423_0.out
       have hnc99 := NB0_423.out
       have hcz100_0 : wc.cell? ⟨gb423, 0, none⟩ = some (.int .i64 x424000_2) := (blk_cell BK423.out 0).trans rfl
       have hcz100_1 : wc.cell? ⟨gb423, 1, none⟩ = some (.int .i64 0) := (blk_cell BK423.out 1).trans rfl
       have hcz100_2 : wc.cell? ⟨gb423, 2, none⟩ = some (.int .i64 0) := (blk_cell BK423.out 2).trans rfl
       have hcz100_3 : wc.cell? ⟨gb423, 3, none⟩ = some (.int .i64 0) := (blk_cell BK423.out 3).trans rfl
       have hcz100_4 : wc.cell? ⟨gb423, 4, none⟩ = some (.slice none 0 0) := (blk_cell BK423.out 4).trans rfl
       have hfz100_0 := blk_frozen BK423.out 0
       have hfz100_1 := blk_frozen BK423.out 1
       have hfz100_2 := blk_frozen BK423.out 2
       have hfz100_3 := blk_frozen BK423.out 3
       have hfz100_4 := blk_frozen BK423.out 4
       go_wp2_with (first | ((with_reducible refine gate_callee (f := 121) rfl ?_); refine goesL_ (some 37) rfl rfl Try.func121 (by kernel_rfl) rfl #[.pointer (some ⟨g, 0, none⟩)] rfl (by (try simp only [List.map_toArray, List.map_cons, List.map_nil]); first | done | rfl | (simp only [List.length_drop, List.length_take]; rfl)) ?_; (with_reducible refine (impl_scan_ue.calls kj2 g x1000_2 x1001_2 false t443 t444 t445 t446 w0 _ ?side1 ?side2 A76.out).mono ?_); (case side1 => repeat (first | (with_reducible first | exact HI0.out | apply IsS94.alloc | apply IsS94.drewN | apply IsS94.drew | apply IsS94.set_0 | apply IsS94.set_1 | apply IsS94.set_2 | refine IsS94.far ?_ NB0_421.out _ | refine IsS94.far ?_ NB0_422.out _ | refine IsS94.far ?_ NB0_423.out _) | exact HI0.out)); (case side2 => repeat (first | (with_reducible first | exact HB.out | apply below_alloc | apply pw_below_drewN | apply below_drew1 | refine below_set ?_ (IsS94.ge HI0.out) | refine below_set ?_ GE421.out | refine below_set ?_ GE422.out | refine below_set ?_ GE423.out) | exact HB.out)); rintro e w101 ⟨rfl, hi, hb, hk⟩; refine ⟨_, rfl, ?_⟩; have n0_ := Aside0.mk (KeepBut.blk hk (g' := gb421) (o := .cells #[.bool a1_0, .int .i64 a1_1, .bool a1_2, .bool a1_3] 40 (0, 0)) (by (with_reducible repeat (first | refine blk_drewN ?_ _ | refine blk_drew ?_ | refine blk_alloc ?_ _)); exact BK421.out) NB421_0.out (by simp)); have n1_ := Aside0.mk (KeepBut.blk hk (g' := gb422) (o := .cells #[.int .i64 0, .int .i64 0, .int .i64 0, .int .i64 0, .slice none 0 0] 50 (0, 0)) (by (with_reducible repeat (first | refine blk_drewN ?_ _ | refine blk_drew ?_ | refine blk_alloc ?_ _)); exact BK422.out) NB422_0.out (by simp)); have n2_ := Aside0.mk (KeepBut.blk hk (g' := gb423) (o := .cells #[.int .i64 x424000_2, .int .i64 0, .int .i64 0, .int .i64 0, .slice none 0 0] 50 (0, 0)) (by (with_reducible repeat (first | refine blk_drewN ?_ _ | refine blk_drew ?_ | refine blk_alloc ?_ _)); exact BK423.out) NB423_0.out (by simp)); have n3_ := Aside0.mk (KeepBut.trans (by repeat (first | (with_reducible first | exact HK.out | apply KeepBut.set_ | apply keep_drewN | apply keep_drew | apply keep_alloc | refine keep_far ?_ GW421.out _ | refine keep_far ?_ GW422.out _ | refine keep_far ?_ GW423.out _) | exact HK.out)) hk (.inl rfl)); have n4_ := Aside0.mk (hb); have n5_ := Aside0.mk (hi); clear BK421; clear BK422; clear BK423; clear HK; clear HB; clear HI0; have BK421 := n0_; have BK422 := n1_; have BK423 := n2_; have HK := n3_; have HB := n4_; have HI0 := n5_; clear n0_ n1_ n2_ n3_ n4_ n5_; (try clear hb); (try clear hb2); (try clear hk); (try clear hi); have hcz102_0 : w101.cell? ⟨gb423, 0, none⟩ = some (.int .i64 x424000_2) := (blk_cell BK423.out 0).trans rfl; have hcz102_1 : w101.cell? ⟨gb423, 1, none⟩ = some (.int .i64 0) := (blk_cell BK423.out 1).trans rfl; have hcz102_2 : w101.cell? ⟨gb423, 2, none⟩ = some (.int .i64 0) := (blk_cell BK423.out 2).trans rfl; have hcz102_3 : w101.cell? ⟨gb423, 3, none⟩ = some (.int .i64 0) := (blk_cell BK423.out 3).trans rfl; have hcz102_4 : w101.cell? ⟨gb423, 4, none⟩ = some (.slice none 0 0) := (blk_cell BK423.out 4).trans rfl; have hfz102_0 := blk_frozen BK423.out 0; have hfz102_1 := blk_frozen BK423.out 1; have hfz102_2 := blk_frozen BK423.out 2; have hfz102_3 := blk_frozen BK423.out 3; have hfz102_4 := blk_frozen BK423.out 4; have hnb103 := NB421_422.out; have hnc103 := NB422_421.out; have hnb104 := NB421_0.out; have hnc104 := NB0_421.out; have hcz105_0 : w101.cell? ⟨gb421, 0, none⟩ = some (.bool a1_0) := (blk_cell BK421.out 0).trans rfl; have hcz105_1 : w101.cell? ⟨gb421, 1, none⟩ = some (.int .i64 a1_1) := (blk_cell BK421.out 1).trans rfl; have hcz105_2 : w101.cell? ⟨gb421, 2, none⟩ = some (.bool a1_2) := (blk_cell BK421.out 2).trans rfl; have hcz105_3 : w101.cell? ⟨gb421, 3, none⟩ = some (.bool a1_3) := (blk_cell BK421.out 3).trans rfl; have hfz105_0 := blk_frozen BK421.out 0; have hfz105_1 := blk_frozen BK421.out 1; have hfz105_2 := blk_frozen BK421.out 2; have hfz105_3 := blk_frozen BK421.out 3) | ((with_reducible refine gate_callee (f := 112) rfl ?_); refine goesL_ (some 41) rfl rfl Try.func112 (by kernel_rfl) rfl #[.pointer (some ⟨g, 0, none⟩), .agg #[.bool a1_0, .int .i64 a1_1, .bool a1_2, .bool a1_3]] rfl (by (try simp only [List.map_toArray, List.map_cons, List.map_nil]); first | done | rfl | (simp only [List.length_drop, List.length_take]; rfl)) ?_; (with_reducible refine (impl_scan_levels.calls kj2 g t444 t445 t446 a1_0 a1_1 a1_2 a1_3 t447 t450 t451 false w0 _ ?side1 ?side2 A77.out).mono ?_); (case side1 => repeat (first | (with_reducible first | exact HI0.out | apply IsS94.alloc | apply IsS94.drewN | apply IsS94.drew | apply IsS94.set_0 | apply IsS94.set_1 | apply IsS94.set_2 | refine IsS94.far ?_ NB0_421.out _ | refine IsS94.far ?_ NB0_422.out _ | refine IsS94.far ?_ NB0_423.out _) | exact HI0.out)); (case side2 => repeat (first | (with_reducible first | exact HB.out | apply below_alloc | apply pw_below_drewN | apply below_drew1 | refine below_set ?_ (IsS94.ge HI0.out) | refine below_set ?_ GE421.out | refine below_set ?_ GE422.out | refine below_set ?_ GE423.out) | exact HB.out)); rintro e w106 ⟨v448, rfl, ho0, hi, hb, hk⟩; refine ⟨_, rfl, ?_⟩; have n0_ := Aside0.mk (KeepBut.blk hk (g' := gb421) (o := .cells #[.bool a1_0, .int .i64 a1_1, .bool a1_2, .bool a1_3] 40 (0, 0)) (by (with_reducible repeat (first | refine blk_drewN ?_ _ | refine blk_drew ?_ | refine blk_alloc ?_ _)); refine blk_far ?_ NB421_423.out _; (with_reducible repeat (first | refine blk_drewN ?_ _ | refine blk_drew ?_ | refine blk_alloc ?_ _)); exact BK421.out) NB421_0.out (by simp)); have n1_ := Aside0.mk (KeepBut.blk hk (g' := gb422) (o := .cells #[.int .i64 0, .int .i64 0, .int .i64 0, .int .i64 0, .slice none 0 0] 50 (0, 0)) (by (with_reducible repeat (first | refine blk_drewN ?_ _ | refine blk_drew ?_ | refine blk_alloc ?_ _)); refine blk_far ?_ NB422_423.out _; (with_reducible repeat (first | refine blk_drewN ?_ _ | refine blk_drew ?_ | refine blk_alloc ?_ _)); exact BK422.out) NB422_0.out (by simp)); have n2_ := Aside0.mk (KeepBut.blk hk (g' := gb423) (o := .cells #[.int .i64 x424000_2, .int .i64 t443, .int .i64 0, .int .i64 0, .slice none 0 0] 50 (0, 0)) (by (with_reducible repeat (first | refine blk_drewN ?_ _ | refine blk_drew ?_ | refine blk_alloc ?_ _)); refine blk_put (cs := #[.int .i64 x424000_2, .int .i64 0, .int .i64 0, .int .i64 0, .slice none 0 0]) ?_ 1 _ rfl; (with_reducible repeat (first | refine blk_drewN ?_ _ | refine blk_drew ?_ | refine blk_alloc ?_ _)); exact BK423.out) NB423_0.out (by simp)); have n3_ := Aside0.mk (Kd.R_lower ho0 (keep_size (w := w) (g := g) (row := none) (by repeat (first | (with_reducible first | exact HK.out | apply KeepBut.set_ | apply keep_drewN | apply keep_drew | apply keep_alloc | refine keep_far ?_ GW421.out _ | refine keep_far ?_ GW422.out _ | refine keep_far ?_ GW423.out _) | exact HK.out)))); have n4_ := Aside0.mk (KeepBut.trans (by repeat (first | (with_reducible first | exact HK.out | apply KeepBut.set_ | apply keep_drewN | apply keep_drew | apply keep_alloc | refine keep_far ?_ GW421.out _ | refine keep_far ?_ GW422.out _ | refine keep_far ?_ GW423.out _) | exact HK.out)) hk (.inl rfl)); have n5_ := Aside0.mk (hb); have n6_ := Aside0.mk (hi); clear BK421; clear BK422; clear BK423; clear HK; clear HB; clear HI0; have BK421 := n0_; have BK422 := n1_; have BK423 := n2_; have HO449 := n3_; have HK := n4_; have HB := n5_; have HI0 := n6_; clear n0_ n1_ n2_ n3_ n4_ n5_ n6_; (try clear hb); (try clear hb2); (try clear hk); (try clear hi); (try clear ho0); obtain ⟨Ao107, co107, eo107⟩ := Kd.R_slice HO449.out; subst eo107; have hcz108_0 : w106.cell? ⟨gb423, 0, none⟩ = some (.int .i64 x424000_2) := (blk_cell BK423.out 0).trans rfl; have hcz108_1 : w106.cell? ⟨gb423, 1, none⟩ = some (.int .i64 t443) := (blk_cell BK423.out 1).trans rfl; have hcz108_2 : w106.cell? ⟨gb423, 2, none⟩ = some (.int .i64 0) := (blk_cell BK423.out 2).trans rfl; have hcz108_3 : w106.cell? ⟨gb423, 3, none⟩ = some (.int .i64 0) := (blk_cell BK423.out 3).trans rfl; have hcz108_4 : w106.cell? ⟨gb423, 4, none⟩ = some (.slice none 0 0) := (blk_cell BK423.out 4).trans rfl; have hfz108_0 := blk_frozen BK423.out 0; have hfz108_1 := blk_frozen BK423.out 1; have hfz108_2 := blk_frozen BK423.out 2; have hfz108_3 := blk_frozen BK423.out 3; have hfz108_4 := blk_frozen BK423.out 4; obtain ⟨HGz109, hgz109⟩ := HI0.out; have hcz109_0 := cellS94_0 HGz109; have hcz109_1 := cellS94_1 HGz109; have hcz109_2 := cellS94_2 HGz109; have hfz109_0 := blk_frozen HGz109 0; have hfz109_1 := blk_frozen HGz109 1; have hfz109_2 := blk_frozen HGz109 2; clear HGz109 hgz109) | (go_at_call 48; (with_reducible refine (impl_SquareOk.calls kj2 x424000_2 t443 0 0 _ _ t447 t453 _ ?side1 ?side2 A95.out).mono ?_); (case side1 => refine (Kd.R_reads' (e := 3) (base := w.heap.size) (ok := fun k_ => True) (n := t447.length) (c := co107) ?_).2.2; exact (by (with_reducible repeat (first | apply Kd.R_alloc | apply Kd.R_drewN | apply Kd.R_drew)); exact (Kd.R_mono (Kd.R_far (p := ⟨gb423, 4, none⟩) (Kd.R_types HO449.out BK423.out (by decide)) (fun _ hk => hk.2) (.slice Ao107 t447.length co107)) (fun _ h_ => h_.1)))); (case side2 => exact (Kd.R_reads' HO449.out).2.1); rintro e w110 ⟨rfl, hb⟩; have n0_ := Aside0.mk (Kd.R_below (by (with_reducible repeat (first | apply Kd.R_alloc | apply Kd.R_drewN | apply Kd.R_drew)); exact (Kd.R_mono (Kd.R_far (p := ⟨gb423, 4, none⟩) (Kd.R_types HO449.out BK423.out (by decide)) (fun _ hk => hk.2) (.slice Ao107 t447.length co107)) (fun _ h_ => h_.1))) hb); have n1_ := Aside0.mk (blk_below (g := gb421) (o := .cells #[.bool a1_0, .int .i64 a1_1, .bool a1_2, .bool a1_3] 40 (0, 0)) (by (with_reducible repeat (first | refine blk_drewN ?_ _ | refine blk_drew ?_ | refine blk_alloc ?_ _)); refine blk_far ?_ NB421_423.out _; (with_reducible repeat (first | refine blk_drewN ?_ _ | refine blk_drew ?_ | refine blk_alloc ?_ _)); exact BK421.out) hb); have n2_ := Aside0.mk (blk_below (g := gb422) (o := .cells #[.int .i64 0, .int .i64 0, .int .i64 0, .int .i64 0, .slice none 0 0] 50 (0, 0)) (by (with_reducible repeat (first | refine blk_drewN ?_ _ | refine blk_drew ?_ | refine blk_alloc ?_ _)); refine blk_far ?_ NB422_423.out _; (with_reducible repeat (first | refine blk_drewN ?_ _ | refine blk_drew ?_ | refine blk_alloc ?_ _)); exact BK422.out) hb); have n3_ := Aside0.mk (blk_below (g := gb423) (o := .cells #[.int .i64 x424000_2, .int .i64 t443, .int .i64 0, .int .i64 0, .slice Ao107 t447.length co107] 50 (0, 0)) (by (with_reducible repeat (first | refine blk_drewN ?_ _ | refine blk_drew ?_ | refine blk_alloc ?_ _)); refine blk_put (cs := #[.int .i64 x424000_2, .int .i64 t443, .int .i64 0, .int .i64 0, .slice none 0 0]) ?_ 4 _ rfl; (with_reducible repeat (first | refine blk_drewN ?_ _ | refine blk_drew ?_ | refine blk_alloc ?_ _)); exact BK423.out) hb); have n4_ := Aside0.mk (IsS94.below (show IsS94 w0 (w106.setCell ⟨gb423, 4, none⟩ (.slice Ao107 t447.length co107)) g t450 t451 false from by repeat (first | (with_reducible first | exact HI0.out | apply IsS94.alloc | apply IsS94.drewN | apply IsS94.drew | apply IsS94.set_0 | apply IsS94.set_1 | apply IsS94.set_2 | refine IsS94.far ?_ NB0_421.out _ | refine IsS94.far ?_ NB0_422.out _ | refine IsS94.far ?_ NB0_423.out _) | exact HI0.out)) hb); have n5_ := Aside0.mk (KeepBut.trans (by repeat (first | (with_reducible first | exact HK.out | apply KeepBut.set_ | apply keep_drewN | apply keep_drew | apply keep_alloc | refine keep_far ?_ GW421.out _ | refine keep_far ?_ GW422.out _ | refine keep_far ?_ GW423.out _) | exact HK.out)) (KeepBut.of_below hb g none) (.inl rfl)); have n6_ := Aside0.mk (below_step (by repeat (first | (with_reducible first | exact HB.out | apply below_alloc | apply pw_below_drewN | apply below_drew1 | refine below_set ?_ (IsS94.ge HI0.out) | refine below_set ?_ GE421.out | refine below_set ?_ GE422.out | refine below_set ?_ GE423.out) | exact HB.out)) hb); clear HO449; clear BK421; clear BK422; clear BK423; clear HI0; clear HK; clear HB; have HO449 := n0_; have BK421 := n1_; have BK422 := n2_; have BK423 := n3_; have HI0 := n4_; have HK := n5_; have HB := n6_; clear n0_ n1_ n2_ n3_ n4_ n5_ n6_; (try clear hb); (try clear hb2); (try clear hk); (try clear hi); obtain ⟨HGz111, hgz111⟩ := HI0.out; have hcz111_0 := cellS94_0 HGz111; have hcz111_1 := cellS94_1 HGz111; have hcz111_2 := cellS94_2 HGz111; have hfz111_0 := blk_frozen HGz111 0; have hfz111_1 := blk_frozen HGz111 1; have hfz111_2 := blk_frozen HGz111 2; clear HGz111 hgz111; have hcz112_0 : w110.cell? ⟨gb423, 0, none⟩ = some (.int .i64 x424000_2) := (blk_cell BK423.out 0).trans rfl; have hcz112_1 : w110.cell? ⟨gb423, 1, none⟩ = some (.int .i64 t443) := (blk_cell BK423.out 1).trans rfl; have hcz112_2 : w110.cell? ⟨gb423, 2, none⟩ = some (.int .i64 0) := (blk_cell BK423.out 2).trans rfl; have hcz112_3 : w110.cell? ⟨gb423, 3, none⟩ = some (.int .i64 0) := (blk_cell BK423.out 3).trans rfl; have hcz112_4 : w110.cell? ⟨gb423, 4, none⟩ = some (.slice Ao107 t447.length co107) := (blk_cell BK423.out 4).trans rfl; have hfz112_0 := blk_frozen BK423.out 0; have hfz112_1 := blk_frozen BK423.out 1; have hfz112_2 := blk_frozen BK423.out 2; have hfz112_3 := blk_frozen BK423.out 3; have hfz112_4 := blk_frozen BK423.out 4; have hnb113 := NB422_0.out; have hnc113 := NB0_422.out; have hcz114_0 : w110.cell? ⟨gb422, 0, none⟩ = some (.int .i64 0) := (blk_cell BK422.out 0).trans rfl; have hcz114_1 : w110.cell? ⟨gb422, 1, none⟩ = some (.int .i64 0) := (blk_cell BK422.out 1).trans rfl; have hcz114_2 : w110.cell? ⟨gb422, 2, none⟩ = some (.int .i64 0) := (blk_cell BK422.out 2).trans rfl; have hcz114_3 : w110.cell? ⟨gb422, 3, none⟩ = some (.int .i64 0) := (blk_cell BK422.out 3).trans rfl; have hcz114_4 : w110.cell? ⟨gb422, 4, none⟩ = some (.slice none 0 0) := (blk_cell BK422.out 4).trans rfl; have hfz114_0 := blk_frozen BK422.out 0; have hfz114_1 := blk_frozen BK422.out 1; have hfz114_2 := blk_frozen BK422.out 2; have hfz114_3 := blk_frozen BK422.out 3; have hfz114_4 := blk_frozen BK422.out 4))
       refine bodyPost_ret (results_cell_row rfl _ _ gb422 50 #[.int .i64 x424000_2, .int .i64 t443, .int .i64 0, .int .i64 0, .slice Ao107 t447.length co107] (0, 0) _ rfl (by (with_reducible repeat (first | refine blk_drewN ?_ _ | refine blk_drew ?_ | refine blk_alloc ?_ _)); refine blk_put (cs := #[.int .i64 x424000_2, .int .i64 t443, .int .i64 0, .int .i64 0, .slice none 0 0]) ?_ 4 _ rfl; (with_reducible repeat (first | refine blk_drewN ?_ _ | refine blk_drew ?_ | refine blk_alloc ?_ _)); refine blk_put (cs := #[.int .i64 x424000_2, .int .i64 t443, .int .i64 0, .int .i64 0, .slice none 0 0]) ?_ 3 _ rfl; (with_reducible repeat (first | refine blk_drewN ?_ _ | refine blk_drew ?_ | refine blk_alloc ?_ _)); refine blk_put (cs := #[.int .i64 x424000_2, .int .i64 t443, .int .i64 0, .int .i64 0, .slice none 0 0]) ?_ 2 _ rfl; (with_reducible repeat (first | refine blk_drewN ?_ _ | refine blk_drew ?_ | refine blk_alloc ?_ _)); refine blk_put (cs := #[.int .i64 x424000_2, .int .i64 0, .int .i64 0, .int .i64 0, .slice none 0 0]) ?_ 1 _ rfl; (with_reducible repeat (first | refine blk_drewN ?_ _ | refine blk_drew ?_ | refine blk_alloc ?_ _)); refine blk_put (cs := #[.int .i64 0, .int .i64 0, .int .i64 0, .int .i64 0, .slice none 0 0]) ?_ 0 _ rfl; (with_reducible repeat (first | refine blk_drewN ?_ _ | refine blk_drew ?_ | refine blk_alloc ?_ _)); refine blk_far ?_ NB422_0.out _; (with_reducible repeat (first | refine blk_drewN ?_ _ | refine blk_drew ?_ | refine blk_alloc ?_ _)); exact BK422.out) Try.underlying50 rfl (by kernel_rfl)) rfl ?_
       exact ⟨_, by first | rfl | (simp [errW_none, errW_some] <;> rfl) | (simp [*, errW_none, errW_some] <;> rfl), by (with_reducible repeat (first | apply Kd.R_alloc | apply Kd.R_drewN | apply Kd.R_drew)); exact Kd.R_mono (Kd.R_far (p := ⟨gb422, 4, none⟩) (Kd.R_far (p := ⟨gb422, 3, none⟩) (Kd.R_far (p := ⟨gb422, 2, none⟩) (Kd.R_far (p := ⟨gb422, 1, none⟩) (Kd.R_far (p := ⟨gb422, 0, none⟩) (Kd.R_far (p := ⟨g, 2, none⟩) (Kd.R_types (IsS94.apart HI0.out HO449.out (by decide)) BK422.out (by decide)) (fun _ hk => hk.1.2) (.bool (!t453))) (fun _ hk => hk.2) (.int .i64 x424000_2)) (fun _ hk => hk.2) (.int .i64 t443)) (fun _ hk => hk.2) (.int .i64 0)) (fun _ hk => hk.2) (.int .i64 0)) (fun _ hk => hk.2) (.slice Ao107 t447.length co107)) (fun _ hk => trivial), by repeat (first | (with_reducible first | exact HI0.out | apply IsS94.alloc | apply IsS94.drewN | apply IsS94.drew | apply IsS94.set_0 | apply IsS94.set_1 | apply IsS94.set_2 | refine IsS94.far ?_ NB0_421.out _ | refine IsS94.far ?_ NB0_422.out _ | refine IsS94.far ?_ NB0_423.out _) | exact HI0.out), by repeat (first | (with_reducible first | exact HB.out | apply below_alloc | apply pw_below_drewN | apply below_drew1 | refine below_set ?_ (IsS94.ge HI0.out) | refine below_set ?_ GE421.out | refine below_set ?_ GE422.out | refine below_set ?_ GE423.out) | exact HB.out), by repeat (first | (with_reducible first | exact HK.out | apply KeepBut.set_ | apply keep_drewN | apply keep_drew | apply keep_alloc | refine keep_far ?_ GW421.out _ | refine keep_far ?_ GW422.out _ | refine keep_far ?_ GW423.out _) | exact HK.out)⟩
     ·rw [if_neg c75] at H
      have c75b0 : (x424000_2 == 2) = false := beq_eq_false_iff_ne.mpr c75
      have c75b1 : (x424000_2 != 2) = true := bne_iff_ne.mpr c75
      replace H := Option.bind_eq_some_iff.mp H
      obtain ⟨t454, A1150, H⟩ := H
      replace H : (some (x424000_2, 0, 0, 0, ([] : List Int), x1000_2, x1001_2, !t454)) = some (r1, r2, r3, r4, r5, r6, r7, r8) := H
      have A115 := Aside0.mk A1150
      clear A1150
      simp only [Option.some.injEq, Prod.mk.injEq] at H
      obtain ⟨rfl, rfl, rfl, rfl, rfl, rfl, rfl, rfl⟩ := H
      obtain ⟨HGz116, hgz116⟩ := HI0.out
      have hcz116_0 := cellS94_0 HGz116
      have hcz116_1 := cellS94_1 HGz116
      have hcz116_2 := cellS94_2 HGz116
      have hfz116_0 := blk_frozen HGz116 0
      have hfz116_1 := blk_frozen HGz116 1
      have hfz116_2 := blk_frozen HGz116 2
      clear HGz116 hgz116
      have hnb117 := NB423_421.out
      have hnc117 := NB421_423.out
      have hnb118 := NB423_422.out
      have hnc118 := NB422_423.out
      have hnb119 := NB423_0.out
      have hnc119 := NB0_423.out
      have hcz120_0 : wc.cell? ⟨gb423, 0, none⟩ = some (.int .i64 x424000_2) := (blk_cell BK423.out 0).trans rfl
      have hcz120_1 : wc.cell? ⟨gb423, 1, none⟩ = some (.int .i64 0) := (blk_cell BK423.out 1).trans rfl
      have hcz120_2 : wc.cell? ⟨gb423, 2, none⟩ = some (.int .i64 0) := (blk_cell BK423.out 2).trans rfl
      have hcz120_3 : wc.cell? ⟨gb423, 3, none⟩ = some (.int .i64 0) := (blk_cell BK423.out 3).trans rfl
      have hcz120_4 : wc.cell? ⟨gb423, 4, none⟩ = some (.slice none 0 0) := (blk_cell BK423.out 4).trans rfl
      have hfz120_0 := blk_frozen BK423.out 0
      have hfz120_1 := blk_frozen BK423.out 1
      have hfz120_2 := blk_frozen BK423.out 2
      have hfz120_3 := blk_frozen BK423.out 3
      have hfz120_4 := blk_frozen BK423.out 4
      go_wp2_with (first | (go_at_call 48; (refine (impl_SquareOk.calls kj2 x424000_2 0 0 0 _ _ ([] : List Int) t454 _ ?side1 ?side2 A115.out).mono ?_); (case side1 => exact Kd.C_nil _ _); (case side2 => exact Nat.le_refl _); rintro e w121 ⟨rfl, hb⟩; have n0_ := Aside0.mk (blk_below (g := gb421) (o := .cells #[.bool a1_0, .int .i64 a1_1, .bool a1_2, .bool a1_3] 40 (0, 0)) (by (with_reducible repeat (first | refine blk_drewN ?_ _ | refine blk_drew ?_ | refine blk_alloc ?_ _)); exact BK421.out) hb); have n1_ := Aside0.mk (blk_below (g := gb422) (o := .cells #[.int .i64 0, .int .i64 0, .int .i64 0, .int .i64 0, .slice none 0 0] 50 (0, 0)) (by (with_reducible repeat (first | refine blk_drewN ?_ _ | refine blk_drew ?_ | refine blk_alloc ?_ _)); exact BK422.out) hb); have n2_ := Aside0.mk (blk_below (g := gb423) (o := .cells #[.int .i64 x424000_2, .int .i64 0, .int .i64 0, .int .i64 0, .slice none 0 0] 50 (0, 0)) (by (with_reducible repeat (first | refine blk_drewN ?_ _ | refine blk_drew ?_ | refine blk_alloc ?_ _)); exact BK423.out) hb); have n3_ := Aside0.mk (IsS94.below (by repeat (first | (with_reducible first | exact HI0.out | apply IsS94.alloc | apply IsS94.drewN | apply IsS94.drew | apply IsS94.set_0 | apply IsS94.set_1 | apply IsS94.set_2 | refine IsS94.far ?_ NB0_421.out _ | refine IsS94.far ?_ NB0_422.out _ | refine IsS94.far ?_ NB0_423.out _) | exact HI0.out)) hb); have n4_ := Aside0.mk (KeepBut.trans (by repeat (first | (with_reducible first | exact HK.out | apply KeepBut.set_ | apply keep_drewN | apply keep_drew | apply keep_alloc | refine keep_far ?_ GW421.out _ | refine keep_far ?_ GW422.out _ | refine keep_far ?_ GW423.out _) | exact HK.out)) (KeepBut.of_below hb g none) (.inl rfl)); have n5_ := Aside0.mk (below_step (by repeat (first | (with_reducible first | exact HB.out | apply below_alloc | apply pw_below_drewN | apply below_drew1 | refine below_set ?_ (IsS94.ge HI0.out) | refine below_set ?_ GE421.out | refine below_set ?_ GE422.out | refine below_set ?_ GE423.out) | exact HB.out)) hb); clear BK421; clear BK422; clear BK423; clear HI0; clear HK; clear HB; have BK421 := n0_; have BK422 := n1_; have BK423 := n2_; have HI0 := n3_; have HK := n4_; have HB := n5_; clear n0_ n1_ n2_ n3_ n4_ n5_; (try clear hb); (try clear hb2); (try clear hk); (try clear hi); obtain ⟨HGz122, hgz122⟩ := HI0.out; have hcz122_0 := cellS94_0 HGz122; have hcz122_1 := cellS94_1 HGz122; have hcz122_2 := cellS94_2 HGz122; have hfz122_0 := blk_frozen HGz122 0; have hfz122_1 := blk_frozen HGz122 1; have hfz122_2 := blk_frozen HGz122 2; clear HGz122 hgz122; have hcz123_0 : w121.cell? ⟨gb423, 0, none⟩ = some (.int .i64 x424000_2) := (blk_cell BK423.out 0).trans rfl; have hcz123_1 : w121.cell? ⟨gb423, 1, none⟩ = some (.int .i64 0) := (blk_cell BK423.out 1).trans rfl; have hcz123_2 : w121.cell? ⟨gb423, 2, none⟩ = some (.int .i64 0) := (blk_cell BK423.out 2).trans rfl; have hcz123_3 : w121.cell? ⟨gb423, 3, none⟩ = some (.int .i64 0) := (blk_cell BK423.out 3).trans rfl; have hcz123_4 : w121.cell? ⟨gb423, 4, none⟩ = some (.slice none 0 0) := (blk_cell BK423.out 4).trans rfl; have hfz123_0 := blk_frozen BK423.out 0; have hfz123_1 := blk_frozen BK423.out 1; have hfz123_2 := blk_frozen BK423.out 2; have hfz123_3 := blk_frozen BK423.out 3; have hfz123_4 := blk_frozen BK423.out 4; have hnb124 := NB422_421.out; have hnc124 := NB421_422.out; have hnb125 := NB422_0.out; have hnc125 := NB0_422.out; have hcz126_0 : w121.cell? ⟨gb422, 0, none⟩ = some (.int .i64 0) := (blk_cell BK422.out 0).trans rfl; have hcz126_1 : w121.cell? ⟨gb422, 1, none⟩ = some (.int .i64 0) := (blk_cell BK422.out 1).trans rfl; have hcz126_2 : w121.cell? ⟨gb422, 2, none⟩ = some (.int .i64 0) := (blk_cell BK422.out 2).trans rfl; have hcz126_3 : w121.cell? ⟨gb422, 3, none⟩ = some (.int .i64 0) := (blk_cell BK422.out 3).trans rfl; have hcz126_4 : w121.cell? ⟨gb422, 4, none⟩ = some (.slice none 0 0) := (blk_cell BK422.out 4).trans rfl; have hfz126_0 := blk_frozen BK422.out 0; have hfz126_1 := blk_frozen BK422.out 1; have hfz126_2 := blk_frozen BK422.out 2; have hfz126_3 := blk_frozen BK422.out 3; have hfz126_4 := blk_frozen BK422.out 4))
      refine bodyPost_ret (results_cell_row rfl _ _ gb422 50 #[.int .i64 x424000_2, .int .i64 0, .int .i64 0, .int .i64 0, .slice none 0 0] (0, 0) _ rfl (by (with_reducible repeat (first | refine blk_drewN ?_ _ | refine blk_drew ?_ | refine blk_alloc ?_ _)); refine blk_put (cs := #[.int .i64 x424000_2, .int .i64 0, .int .i64 0, .int .i64 0, .slice none 0 0]) ?_ 4 _ rfl; (with_reducible repeat (first | refine blk_drewN ?_ _ | refine blk_drew ?_ | refine blk_alloc ?_ _)); refine blk_put (cs := #[.int .i64 x424000_2, .int .i64 0, .int .i64 0, .int .i64 0, .slice none 0 0]) ?_ 3 _ rfl; (with_reducible repeat (first | refine blk_drewN ?_ _ | refine blk_drew ?_ | refine blk_alloc ?_ _)); refine blk_put (cs := #[.int .i64 x424000_2, .int .i64 0, .int .i64 0, .int .i64 0, .slice none 0 0]) ?_ 2 _ rfl; (with_reducible repeat (first | refine blk_drewN ?_ _ | refine blk_drew ?_ | refine blk_alloc ?_ _)); refine blk_put (cs := #[.int .i64 x424000_2, .int .i64 0, .int .i64 0, .int .i64 0, .slice none 0 0]) ?_ 1 _ rfl; (with_reducible repeat (first | refine blk_drewN ?_ _ | refine blk_drew ?_ | refine blk_alloc ?_ _)); refine blk_put (cs := #[.int .i64 0, .int .i64 0, .int .i64 0, .int .i64 0, .slice none 0 0]) ?_ 0 _ rfl; (with_reducible repeat (first | refine blk_drewN ?_ _ | refine blk_drew ?_ | refine blk_alloc ?_ _)); refine blk_far ?_ NB422_0.out _; (with_reducible repeat (first | refine blk_drewN ?_ _ | refine blk_drew ?_ | refine blk_alloc ?_ _)); exact BK422.out) Try.underlying50 rfl (by kernel_rfl)) rfl ?_
      exact ⟨_, by first | rfl | (simp [errW_none, errW_some] <;> rfl) | (simp [*, errW_none, errW_some] <;> rfl), by first | exact Kd.R_nil _ _ _ _ _ | exact Kd.N_nil _ _ _ _ _ | exact Kd.V_nil _ _ _ _ _ | exact Kd.Q_nil _ _ _ _ _ | exact Kd.S_nil _ _ _ _ _, by repeat (first | (with_reducible first | exact HI0.out | apply IsS94.alloc | apply IsS94.drewN | apply IsS94.drew | apply IsS94.set_0 | apply IsS94.set_1 | apply IsS94.set_2 | refine IsS94.far ?_ NB0_421.out _ | refine IsS94.far ?_ NB0_422.out _ | refine IsS94.far ?_ NB0_423.out _) | exact HI0.out), by repeat (first | (with_reducible first | exact HB.out | apply below_alloc | apply pw_below_drewN | apply below_drew1 | refine below_set ?_ (IsS94.ge HI0.out) | refine below_set ?_ GE421.out | refine below_set ?_ GE422.out | refine below_set ?_ GE423.out) | exact HB.out), by repeat (first | (with_reducible first | exact HK.out | apply KeepBut.set_ | apply keep_drewN | apply keep_drew | apply keep_alloc | refine keep_far ?_ GW421.out _ | refine keep_far ?_ GW422.out _ | refine keep_far ?_ GW423.out _) | exact HK.out)⟩

mutual
def impl_ReadTile.j0 : Nat → ByteArray → Int → List (S50) → Bool → Bool → Int → Bool → Bool → ByteArray → Int → Bool → Option ((List (S50)) × Bool)
 | 0, _, _, _, _, _, _, _, _, _, _, _ => none
 | k + 1, x0, x2, x11, x23, x456000, x456001, x456002, x456003, x460000, x460001, x460002 => if x23 = true then (some (x11, false)) else (impl_ReadTile.l0 k x0 x11 x2 0 x456000 x456001 x456002 x456003 x460000 x460001 x460002)
def impl_ReadTile.l0 : Nat → ByteArray → List (S50) → Int → Int → Bool → Int → Bool → Bool → ByteArray → Int → Bool → Option ((List (S50)) × Bool)
 | 0, _, _, _, _, _, _, _, _, _, _, _ => none
 | k + 1, x0, x11, x25, x26, x456000, x456001, x456002, x456003, x460000, x460001, x460002 => if x26 < x25 then ((impl_scan_square.f k x460000 x460001 x460002 x456000 x456001 x456002 x456003).bind fun bt465 => (if x11.length < 2513169434916 then (if bt465.2.2.2.2.2.2.2 = true then (some ((([] : List (S50))), false)) else (impl_ReadTile.l0 k x0 (x11 ++ [(⟨bt465.1, bt465.2.1, bt465.2.2.1, bt465.2.2.2.1, bt465.2.2.2.2.1⟩ : S50)]) x25 (wrap64 (x26 + 1)) x456000 x456001 x456002 x456003 bt465.2.2.2.2.2.1 bt465.2.2.2.2.2.2.1 bt465.2.2.2.2.2.2.2)) else (none))) else (if x460001 = (x0.size : Int) then (some (x11, true)) else (some ((([] : List (S50))), false)))
end
def impl_ReadTile.f (k : Nat) (a0 : ByteArray) (a1 : Int) (a2 : Int) (a3_0 : Bool) (a3_1 : Int) (a3_2 : Bool) (a3_3 : Bool) : Option ((List (S50)) × Bool) := (impl_opened.f k a0 a1).bind fun bt456 => ((some (([] : List (S50)) : List (S50))).bind fun y460 => ((impl_within.f a2 1 64).bind fun t463 => (if t463 = true then ((impl_CondOk.f a3_0 a3_1 a3_2 a3_3).bind fun t464 => (impl_ReadTile.j0 k a0 a2 y460 (!t464) a3_0 a3_1 a3_2 a3_3 bt456.1 bt456.2.1 bt456.2.2)) else (impl_ReadTile.j0 k a0 a2 y460 true a3_0 a3_1 a3_2 a3_3 bt456.1 bt456.2.1 bt456.2.2))))
theorem impl_ReadTile.mono_l : ∀ k, (∀ y0 y1 y2 y3 y4 y5 y6 y7 y8 y9 y10, LeO (impl_ReadTile.j0 k y0 y1 y2 y3 y4 y5 y6 y7 y8 y9 y10) (impl_ReadTile.j0 (k + 1) y0 y1 y2 y3 y4 y5 y6 y7 y8 y9 y10)) ∧ (∀ y0 y1 y2 y3 y4 y5 y6 y7 y8 y9 y10, LeO (impl_ReadTile.l0 k y0 y1 y2 y3 y4 y5 y6 y7 y8 y9 y10) (impl_ReadTile.l0 (k + 1) y0 y1 y2 y3 y4 y5 y6 y7 y8 y9 y10))
 | 0 => ⟨fun _ _ _ _ _ _ _ _ _ _ _ r h => by simp [impl_ReadTile.j0] at h, fun _ _ _ _ _ _ _ _ _ _ _ r h => by simp [impl_ReadTile.l0] at h⟩
 | k + 1 => by
  obtain ⟨ih0, ih1⟩ := impl_ReadTile.mono_l k
  refine ⟨?_, ?_⟩
  ·intro y0 y1 y2 y3 y4 y5 y6 y7 y8 y9 y10
   unfold impl_ReadTile.j0
   repeat' first
   | (with_reducible exact ih0 _ _ _ _ _ _ _ _ _ _ _)
   | (with_reducible exact ih1 _ _ _ _ _ _ _ _ _ _ _)
   | (with_reducible exact impl_opened.mono _ _ _)
   | (with_reducible exact impl_scan_square.mono _ _ _ _ _ _ _ _)
   | (with_reducible exact LeO.refl _)
   | (with_reducible exact LeO.none _)
   | (with_reducible refine LeO.ite ?_ ?_)
   | (with_reducible refine LeO.bind ?_ (fun _ => ?_))
   | exact ih0 _ _ _ _ _ _ _ _ _ _ _
   | exact ih1 _ _ _ _ _ _ _ _ _ _ _
   | exact impl_opened.mono _ _ _
   | exact impl_scan_square.mono _ _ _ _ _ _ _ _
   | exact LeO.none _
   | refine LeO.ite ?_ ?_
   | refine LeO.bind ?_ (fun _ => ?_)
  ·intro y0 y1 y2 y3 y4 y5 y6 y7 y8 y9 y10
   unfold impl_ReadTile.l0
   repeat' first
   | (with_reducible exact ih0 _ _ _ _ _ _ _ _ _ _ _)
   | (with_reducible exact ih1 _ _ _ _ _ _ _ _ _ _ _)
   | (with_reducible exact impl_opened.mono _ _ _)
   | (with_reducible exact impl_scan_square.mono _ _ _ _ _ _ _ _)
   | (with_reducible exact LeO.refl _)
   | (with_reducible exact LeO.none _)
   | (with_reducible refine LeO.ite ?_ ?_)
   | (with_reducible refine LeO.bind ?_ (fun _ => ?_))
   | exact ih0 _ _ _ _ _ _ _ _ _ _ _
   | exact ih1 _ _ _ _ _ _ _ _ _ _ _
   | exact impl_opened.mono _ _ _
   | exact impl_scan_square.mono _ _ _ _ _ _ _ _
   | exact LeO.none _
   | refine LeO.ite ?_ ?_
   | refine LeO.bind ?_ (fun _ => ?_)
theorem impl_ReadTile.mono : ∀ a0 a1 a2 a3 a4 a5 a6 k, LeO (impl_ReadTile.f k a0 a1 a2 a3 a4 a5 a6) (impl_ReadTile.f (k + 1) a0 a1 a2 a3 a4 a5 a6) := by
 intro a0 a1 a2 a3 a4 a5 a6 k
 obtain ⟨ih0, ih1⟩ := impl_ReadTile.mono_l k
 unfold impl_ReadTile.f
 repeat' first
   | (with_reducible exact ih0 _ _ _ _ _ _ _ _ _ _ _)
   | (with_reducible exact ih1 _ _ _ _ _ _ _ _ _ _ _)
   | (with_reducible exact impl_opened.mono _ _ _)
   | (with_reducible exact impl_scan_square.mono _ _ _ _ _ _ _ _)
   | (with_reducible exact LeO.refl _)
   | (with_reducible exact LeO.none _)
   | (with_reducible refine LeO.ite ?_ ?_)
   | (with_reducible refine LeO.bind ?_ (fun _ => ?_))
   | exact ih0 _ _ _ _ _ _ _ _ _ _ _
   | exact ih1 _ _ _ _ _ _ _ _ _ _ _
   | exact impl_opened.mono _ _ _
   | exact impl_scan_square.mono _ _ _ _ _ _ _ _
   | exact LeO.none _
   | refine LeO.ite ?_ ?_
   | refine LeO.bind ?_ (fun _ => ?_)
set_option maxHeartbeats 8000000 in
set_option maxRecDepth 100000 in
theorem impl_ReadTile.calls (k : Nat) (a0 : ByteArray) (a1 : Int) (a2 : Int) (a3_0 : Bool) (a3_1 : Int) (a3_2 : Bool) (a3_3 : Bool) (r1 : List (S50)) (r2 : Bool) (w : World) (h : impl_ReadTile.f k a0 a1 a2 a3_0 a3_1 a3_2 a3_3 = some (r1, r2)) :
  Calls Try.prog 38 #[.string a0, .int .i64 a1, .int .i64 a2, .agg #[.bool a3_0, .int .i64 a3_1, .bool a3_2, .bool a3_3]] w fun e w' => ∃ v0_ : Value, e = .returned (.tuple #[v0_, .bool r2]) ∧ Kd.S k50 50 w' w.heap.size (fun _ => True) v0_ r1 ∧ Below w.heap.size w w' := by
 have hu40 := Try.underlying40
 have HB := Aside0.mk (Below.refl w.heap.size w)
 have H : ((impl_opened.f k a0 a1).bind fun bt456 => ((some (([] : List (S50)) : List (S50))).bind fun y460 => ((impl_within.f a2 1 64).bind fun t463 => (if t463 = true then ((impl_CondOk.f a3_0 a3_1 a3_2 a3_3).bind fun t464 => (impl_ReadTile.j0 k a0 a2 y460 (!t464) a3_0 a3_1 a3_2 a3_3 bt456.1 bt456.2.1 bt456.2.2)) else (impl_ReadTile.j0 k a0 a2 y460 true a3_0 a3_1 a3_2 a3_3 bt456.1 bt456.2.1 bt456.2.2))))) = some (r1, r2) := h
 clear h
 replace H := Option.bind_eq_some_iff.mp H
 obtain ⟨⟨t456, t457, t458⟩, A50, H⟩ := H
 replace H : ((some (([] : List (S50)) : List (S50))).bind fun y460 => ((impl_within.f a2 1 64).bind fun t463 => (if t463 = true then ((impl_CondOk.f a3_0 a3_1 a3_2 a3_3).bind fun t464 => (impl_ReadTile.j0 k a0 a2 y460 (!t464) a3_0 a3_1 a3_2 a3_3 t456 t457 t458)) else (impl_ReadTile.j0 k a0 a2 y460 true a3_0 a3_1 a3_2 a3_3 t456 t457 t458)))) = some (r1, r2) := H
 have A5 := Aside0.mk A50
 clear A50
 obtain ⟨y460, hy460⟩ : ∃ y_ : List (S50), y_ = (([] : List (S50))) := ⟨_, rfl⟩
 replace H : ((impl_within.f a2 1 64).bind fun t463 => (if t463 = true then ((impl_CondOk.f a3_0 a3_1 a3_2 a3_3).bind fun t464 => (impl_ReadTile.j0 k a0 a2 y460 (!t464) a3_0 a3_1 a3_2 a3_3 t456 t457 t458)) else (impl_ReadTile.j0 k a0 a2 y460 true a3_0 a3_1 a3_2 a3_3 t456 t457 t458))) = some (r1, r2) := by first | (rw [hy460]; with_reducible exact H) | (have H2_ := (Option.bind_some _ _).symm.trans H; rw [hy460]; with_reducible exact H2_) | (have H2_ := (Option.bind_some _ _).symm.trans H; with_reducible exact H2_) | with_reducible exact H | (rw [hy460]; exact H) | exact H
 have Ny460 := Aside0.mk hy460
 clear hy460
 have HC6 := Aside0.mk H
 clear H
 go_enter Try.func38, Try.ntmps38
 go_upto_region 3 with (first | ((with_reducible refine gate_dst (N := 7) rfl ?_); refine box_event ?hg (N := 7) ?hd (cs := #[.bool a3_0, .int .i64 a3_1, .bool a3_2, .bool a3_3]) (t := 40) ?hr ?_; (case hd => rfl); (case hg => rfl); (case hr => first | (go_simp; done) | (go_simp; rfl)); intro gb455 hg w7 hbox hb; have n0_ := Aside0.mk (below_step (by repeat (first | (with_reducible first | exact HB.out | apply below_alloc | apply pw_below_drewN | apply below_drew1) | exact HB.out)) hb); have n1_ := Aside0.mk (hbox); have n2_ := Aside0.mk ((by rw [hg]; exact (below_size (by repeat (first | (with_reducible first | exact HB.out | apply below_alloc | apply pw_below_drewN | apply below_drew1) | exact HB.out))) : w.heap.size ≤ gb455)); have n3_ := Aside0.mk ((by rw [hg]; exact (below_size (by repeat (first | (with_reducible first | exact HB.out | apply below_alloc | apply pw_below_drewN | apply below_drew1) | exact HB.out))) : w.heap.size ≤ gb455)); clear HB; have HB := n0_; have BK455 := n1_; have GW455 := n2_; have GE455 := n3_; clear n0_ n1_ n2_ n3_; clear hb hbox hg) | ((with_reducible refine gate_callee (f := 84) rfl ?_); refine goesL_ (some 14) rfl rfl Try.func84 (by kernel_rfl) rfl #[.string a0, .int .i64 a1] rfl (by (try simp only [List.map_toArray, List.map_cons, List.map_nil]); first | done | rfl | (simp only [List.length_drop, List.length_take]; rfl)) ?_; (with_reducible refine (impl_opened.calls k a0 a1 t456 t457 t458 w _ ?side1 A5.out).mono ?_); (case side1 => repeat (first | (with_reducible first | exact HB.out | apply below_alloc | apply pw_below_drewN | apply below_drew1 | refine below_set ?_ GE455.out) | exact HB.out)); rintro e w8 ⟨g459, rfl, hi, hb, hb2⟩; refine ⟨_, rfl, ?_⟩; have n0_ := Aside0.mk (blk_below (g := gb455) (o := .cells #[.bool a3_0, .int .i64 a3_1, .bool a3_2, .bool a3_3] 40 (0, 0)) (by (with_reducible repeat (first | refine blk_drewN ?_ _ | refine blk_drew ?_ | refine blk_alloc ?_ _)); exact BK455.out) hb2); have n1_ := Aside0.mk (hb); have n2_ := Aside0.mk (hi); have n3_ := Aside0.mk (IsS94.ne_blk hi (blk_below (g := gb455) (o := .cells #[.bool a3_0, .int .i64 a3_1, .bool a3_2, .bool a3_3] 40 (0, 0)) (by (with_reducible repeat (first | refine blk_drewN ?_ _ | refine blk_drew ?_ | refine blk_alloc ?_ _)); exact BK455.out) hb2) (by decide)); have n4_ := Aside0.mk (Ne.symm (IsS94.ne_blk hi (blk_below (g := gb455) (o := .cells #[.bool a3_0, .int .i64 a3_1, .bool a3_2, .bool a3_3] 40 (0, 0)) (by (with_reducible repeat (first | refine blk_drewN ?_ _ | refine blk_drew ?_ | refine blk_alloc ?_ _)); exact BK455.out) hb2) (by decide))); clear BK455; clear HB; have BK455 := n0_; have HB := n1_; have HI459 := n2_; have NB459_455 := n3_; have NB455_459 := n4_; clear n0_ n1_ n2_ n3_ n4_; (try clear hb); (try clear hb2); (try clear hk); (try clear hi)) | ((with_reducible refine gate_dst (N := 15) rfl ?_); refine Kd.S_lit k50 _ 50 ?hg (N := 15) ?hd (xs := ([] : List (S50))) (inner := []) (ok := fun _ => True) (okp := fun _ => True) ?hr ?hp (fun _ hk => hk) trivial (Below.refl _ _) (Nat.le_refl _) (by simp) ?_; (case hd => rfl); (case hg => rfl); (case hr => first | (go_simp; done) | (go_simp; rfl)); (case hp => exact (Reps.none _ _)); intro v461 w9 ho10 hb hg_ hnew_; clear hg_ hnew_; (first | rw [← Ny460.out] at ho10 | (simp only [Int.reduceToNat] at ho10; rw [← Ny460.out] at ho10)); have n0_ := Aside0.mk (Kd.S_lower ho10 (below_size (by repeat (first | (with_reducible first | exact HB.out | apply below_alloc | apply pw_below_drewN | apply below_drew1 | refine below_set ?_ (IsS94.ge HI459.out) | refine below_set ?_ GE455.out) | exact HB.out)))); have n1_ := Aside0.mk (blk_below (g := gb455) (o := .cells #[.bool a3_0, .int .i64 a3_1, .bool a3_2, .bool a3_3] 40 (0, 0)) (by (with_reducible repeat (first | refine blk_drewN ?_ _ | refine blk_drew ?_ | refine blk_alloc ?_ _)); exact BK455.out) hb); have n2_ := Aside0.mk (IsS94.below (by repeat (first | (with_reducible first | exact HI459.out | apply IsS94.alloc | apply IsS94.drewN | apply IsS94.drew | apply IsS94.set_0 | apply IsS94.set_1 | apply IsS94.set_2 | refine IsS94.far ?_ NB459_455.out _) | exact HI459.out)) hb); have n3_ := Aside0.mk (below_step (by repeat (first | (with_reducible first | exact HB.out | apply below_alloc | apply pw_below_drewN | apply below_drew1 | refine below_set ?_ (IsS94.ge HI459.out) | refine below_set ?_ GE455.out) | exact HB.out)) hb); clear BK455; clear HI459; clear HB; have HO462 := n0_; have BK455 := n1_; have HI459 := n2_; have HB := n3_; clear n0_ n1_ n2_ n3_; clear hb ho10))
 (try simp only [Act.put, List.setIfInBounds_toArray, List.set_cons_zero, List.set_cons_succ])
 go_cut [23] (fun v23 wc => ∃ (kq : Nat) (x23_5 : Bool), v23 = .bool x23_5 ∧ Aside0 (impl_ReadTile.j0 kq a0 a2 y460 x23_5 a3_0 a3_1 a3_2 a3_3 t456 t457 t458 = some (r1, r2)) ∧ Aside0 (kq ≤ k) ∧ Aside0 (Kd.S k50 50 wc w.heap.size (fun _ => True) v461 y460) ∧ Aside0 (wc.heap[gb455]? = some (.cells #[.bool a3_0, .int .i64 a3_1, .bool a3_2, .bool a3_3] 40 (0, 0))) ∧ Aside0 (IsS94 w wc g459 t456 t457 t458) ∧ Aside0 (Below w.heap.size w wc))
 case first =>
  have H := HC6.out
  clear HC6
  replace H := Option.bind_eq_some_iff.mp H
  obtain ⟨t463, A110, H⟩ := H
  replace H : (if t463 = true then ((impl_CondOk.f a3_0 a3_1 a3_2 a3_3).bind fun t464 => (impl_ReadTile.j0 k a0 a2 y460 (!t464) a3_0 a3_1 a3_2 a3_3 t456 t457 t458)) else (impl_ReadTile.j0 k a0 a2 y460 true a3_0 a3_1 a3_2 a3_3 t456 t457 t458)) = some (r1, r2) := H
  have A11 := Aside0.mk A110
  clear A110
  by_cases c12 : t463 = true
  ·subst c12
   have H1 : ((impl_CondOk.f a3_0 a3_1 a3_2 a3_3).bind fun t464 => (impl_ReadTile.j0 k a0 a2 y460 (!t464) a3_0 a3_1 a3_2 a3_3 t456 t457 t458)) = some (r1, r2) := by rw [if_pos rfl] at H; exact H
   clear H
   have H := H1
   clear H1
   replace H := Option.bind_eq_some_iff.mp H
   obtain ⟨t464, A130, H⟩ := H
   replace H : (impl_ReadTile.j0 k a0 a2 y460 (!t464) a3_0 a3_1 a3_2 a3_3 t456 t457 t458) = some (r1, r2) := H
   have A13 := Aside0.mk A130
   clear A130
   have H' := Aside0.mk H
   clear H
   go_wp2_with (first | ((with_reducible refine gate_callee (f := 80) rfl ?_); refine goesL_ (some 17) rfl rfl Try.func80 (by kernel_rfl) rfl #[.int .i64 a2, .int .i64 1, .int .i64 64] rfl (by (try simp only [List.map_toArray, List.map_cons, List.map_nil]); first | done | rfl | (simp only [List.length_drop, List.length_take]; rfl)) ?_; (with_reducible refine (impl_within.calls a2 1 64 true _ A11.out).mono ?_); rintro e w' ⟨rfl, ⟨nd, rfl⟩⟩; refine ⟨_, rfl, ?_⟩; have hnb14 := NB455_459.out; have hnc14 := NB459_455.out; have hcz15_0 : w9.cell? ⟨gb455, 0, none⟩ = some (.bool a3_0) := (blk_cell BK455.out 0).trans rfl; have hcz15_1 : w9.cell? ⟨gb455, 1, none⟩ = some (.int .i64 a3_1) := (blk_cell BK455.out 1).trans rfl; have hcz15_2 : w9.cell? ⟨gb455, 2, none⟩ = some (.bool a3_2) := (blk_cell BK455.out 2).trans rfl; have hcz15_3 : w9.cell? ⟨gb455, 3, none⟩ = some (.bool a3_3) := (blk_cell BK455.out 3).trans rfl; have hfz15_0 := blk_frozen BK455.out 0; have hfz15_1 := blk_frozen BK455.out 1; have hfz15_2 := blk_frozen BK455.out 2; have hfz15_3 := blk_frozen BK455.out 3) | (go_at_call 58; (with_reducible refine (impl_CondOk.calls a3_0 a3_1 a3_2 a3_3 t464 _ A13.out).mono ?_); rintro e w16 ⟨rfl, hb⟩; have n0_ := Aside0.mk (Kd.S_below (by (with_reducible repeat (first | apply Kd.S_alloc | apply Kd.S_drewN | apply Kd.S_drew)); exact HO462.out) hb); have n1_ := Aside0.mk (blk_below (g := gb455) (o := .cells #[.bool a3_0, .int .i64 a3_1, .bool a3_2, .bool a3_3] 40 (0, 0)) (by (with_reducible repeat (first | refine blk_drewN ?_ _ | refine blk_drew ?_ | refine blk_alloc ?_ _)); exact BK455.out) hb); have n2_ := Aside0.mk (IsS94.below (by repeat (first | (with_reducible first | exact HI459.out | apply IsS94.alloc | apply IsS94.drewN | apply IsS94.drew | apply IsS94.set_0 | apply IsS94.set_1 | apply IsS94.set_2 | refine IsS94.far ?_ NB459_455.out _) | exact HI459.out)) hb); have n3_ := Aside0.mk (below_step (by repeat (first | (with_reducible first | exact HB.out | apply below_alloc | apply pw_below_drewN | apply below_drew1 | refine below_set ?_ (IsS94.ge HI459.out) | refine below_set ?_ GE455.out) | exact HB.out)) hb); clear HO462; clear BK455; clear HI459; clear HB; have HO462 := n0_; have BK455 := n1_; have HI459 := n2_; have HB := n3_; clear n0_ n1_ n2_ n3_; (try clear hb); (try clear hb2); (try clear hk); (try clear hi)))
   go_meet
   case rel => exact ⟨_, (!t464), (by first | rfl | (simp; done) | (simp [*]; done)), H', ⟨by first | omega | exact Nat.le_refl _⟩, ⟨by (with_reducible repeat (first | apply Kd.S_alloc | apply Kd.S_drewN | apply Kd.S_drew)); exact HO462.out⟩, ⟨by (with_reducible repeat (first | refine blk_drewN ?_ _ | refine blk_drew ?_ | refine blk_alloc ?_ _)); exact BK455.out⟩, ⟨by repeat (first | (with_reducible first | exact HI459.out | apply IsS94.alloc | apply IsS94.drewN | apply IsS94.drew | apply IsS94.set_0 | apply IsS94.set_1 | apply IsS94.set_2 | refine IsS94.far ?_ NB459_455.out _) | exact HI459.out)⟩, ⟨by repeat (first | (with_reducible first | exact HB.out | apply below_alloc | apply pw_below_drewN | apply below_drew1 | refine below_set ?_ (IsS94.ge HI459.out) | refine below_set ?_ GE455.out) | exact HB.out)⟩⟩
  ·replace c12 := Bool.eq_false_iff.mpr c12
   subst c12
   have H1 : (impl_ReadTile.j0 k a0 a2 y460 true a3_0 a3_1 a3_2 a3_3 t456 t457 t458) = some (r1, r2) := by rw [if_neg (show ¬ (false = true) by decide)] at H; exact H
   clear H
   have H := H1
   clear H1
   have H' := Aside0.mk H
   clear H
   go_wp2_with (first | ((with_reducible refine gate_callee (f := 80) rfl ?_); refine goesL_ (some 17) rfl rfl Try.func80 (by kernel_rfl) rfl #[.int .i64 a2, .int .i64 1, .int .i64 64] rfl (by (try simp only [List.map_toArray, List.map_cons, List.map_nil]); first | done | rfl | (simp only [List.length_drop, List.length_take]; rfl)) ?_; (with_reducible refine (impl_within.calls a2 1 64 false _ A11.out).mono ?_); rintro e w' ⟨rfl, ⟨nd, rfl⟩⟩; refine ⟨_, rfl, ?_⟩))
   go_meet
   case rel => exact ⟨_, (true), (by first | rfl | (simp; done) | (simp [*]; done)), H', ⟨by first | omega | exact Nat.le_refl _⟩, ⟨by (with_reducible repeat (first | apply Kd.S_alloc | apply Kd.S_drewN | apply Kd.S_drew)); exact HO462.out⟩, ⟨by (with_reducible repeat (first | refine blk_drewN ?_ _ | refine blk_drew ?_ | refine blk_alloc ?_ _)); exact BK455.out⟩, ⟨by repeat (first | (with_reducible first | exact HI459.out | apply IsS94.alloc | apply IsS94.drewN | apply IsS94.drew | apply IsS94.set_0 | apply IsS94.set_1 | apply IsS94.set_2 | refine IsS94.far ?_ NB459_455.out _) | exact HI459.out)⟩, ⟨by repeat (first | (with_reducible first | exact HB.out | apply below_alloc | apply pw_below_drewN | apply below_drew1 | refine below_set ?_ (IsS94.ge HI459.out) | refine below_set ?_ GE455.out) | exact HB.out)⟩⟩
 case rest =>
  clear HC6
  try clear c1
  try clear p2
  try clear c3
  try clear c8
  try clear c12
  try clear c14
  try clear hcz15_0
  try clear hcz15_1
  try clear hcz15_2
  try clear hcz15_3
  try clear hfz15_0
  try clear hfz15_1
  try clear hfz15_2
  try clear hfz15_3
  obtain ⟨kq, x23_5, rfl, HA, HJ5, HO_11, BK455, HI459, HB⟩ := hcut
  cases kq with
  | zero => exact absurd HA.out (by simp [impl_ReadTile.j0])
  | succ kj5 =>
   have H := HA.out
   clear HA
   simp only [impl_ReadTile.j0] at H
   by_cases c17 : x23_5 = true
   ·subst c17
    have H1 : (some (y460, false)) = some (r1, r2) := by rw [if_pos rfl] at H; exact H
    clear H
    have H := H1
    clear H1
    simp only [Option.some.injEq, Prod.mk.injEq] at H
    obtain ⟨rfl, rfl⟩ := H
    go_wp2
    go_ret2
    exact ⟨_, by first | rfl | (simp [errW_none, errW_some] <;> rfl) | (simp [*, errW_none, errW_some] <;> rfl), by (with_reducible repeat (first | apply Kd.S_alloc | apply Kd.S_drewN | apply Kd.S_drew)); exact HO_11.out, by repeat (first | (with_reducible first | exact HB.out | apply below_alloc | apply pw_below_drewN | apply below_drew1 | refine below_set ?_ (IsS94.ge HI459.out) | refine below_set ?_ GE455.out) | exact HB.out)⟩
   ·replace c17 := Bool.eq_false_iff.mpr c17
    subst c17
    have H1 : (impl_ReadTile.l0 kj5 a0 y460 a2 0 a3_0 a3_1 a3_2 a3_3 t456 t457 t458) = some (r1, r2) := by rw [if_neg (show ¬ (false = true) by decide)] at H; exact H
    clear H
    have H := H1
    clear H1
    have H' := Aside0.mk H
    clear H
    go_wp2
    go_loopg [11, 26] kj5 (fun kq v11 v26 w' => ∃ (x11_2 : List (S50)) (x26_2 : Int) (x460000_2 : ByteArray) (x460001_2 : Int) (x460002_2 : Bool), v26 = .int .i64 x26_2 ∧ Aside0 (impl_ReadTile.l0 kq a0 x11_2 a2 x26_2 a3_0 a3_1 a3_2 a3_3 x460000_2 x460001_2 x460002_2 = some (r1, r2)) ∧ Aside0 (kq ≤ kj5) ∧ Aside0 (Kd.S k50 50 w' w.heap.size (fun _ => True) v11 x11_2) ∧ Aside0 (w'.heap[gb455]? = some (.cells #[.bool a3_0, .int .i64 a3_1, .bool a3_2, .bool a3_3] 40 (0, 0))) ∧ Aside0 (IsS94 w w' g459 x460000_2 x460001_2 x460002_2) ∧ Aside0 (Below w.heap.size w w'))
    case atStart => exact ⟨(y460), (0), (t456), (t457), (t458), (by first | rfl | (simp; done) | (simp [*]; done)), H', ⟨Nat.le_refl _⟩, ⟨by (with_reducible repeat (first | apply Kd.S_alloc | apply Kd.S_drewN | apply Kd.S_drew)); exact HO_11.out⟩, ⟨by (with_reducible repeat (first | refine blk_drewN ?_ _ | refine blk_drew ?_ | refine blk_alloc ?_ _)); exact BK455.out⟩, ⟨by repeat (first | (with_reducible first | exact HI459.out | apply IsS94.alloc | apply IsS94.drewN | apply IsS94.drew | apply IsS94.set_0 | apply IsS94.set_1 | apply IsS94.set_2 | refine IsS94.far ?_ NB459_455.out _) | exact HI459.out)⟩, ⟨by repeat (first | (with_reducible first | exact HB.out | apply below_alloc | apply pw_below_drewN | apply below_drew1 | refine below_set ?_ (IsS94.ge HI459.out) | refine below_set ?_ GE455.out) | exact HB.out)⟩⟩
    case round =>
     clear H'
     try clear c1
     try clear p2
     try clear c3
     try clear c8
     try clear c12
     try clear c14
     try clear c17
     try clear hcz15_0
     try clear hcz15_1
     try clear hcz15_2
     try clear hcz15_3
     try clear hfz15_0
     try clear hfz15_1
     try clear hfz15_2
     try clear hfz15_3
     try clear p2
     obtain ⟨x11_2, x26_2, x460000_2, x460001_2, x460002_2, rfl, HA, HK2, HO_11, BK455, HI459, HB⟩ := hrel
     cases gk with
     | zero => exact absurd HA.out (by simp [impl_ReadTile.l0])
     | succ k2 =>
      have H := HA.out
      clear HA
      simp only [impl_ReadTile.l0] at H
      by_cases c18 : x26_2 < a2
      ·rw [if_pos c18] at H
       have c18b0 : decide (x26_2 < a2) = true := decide_eq_true c18
       clear c18
       replace H := Option.bind_eq_some_iff.mp H
       obtain ⟨⟨t465, t466, t467, t468, t469, t472, t473, t474⟩, A190, H⟩ := H
       replace H : (if x11_2.length < 2513169434916 then (if t474 = true then (some ((([] : List (S50))), false)) else (impl_ReadTile.l0 k2 a0 (x11_2 ++ [(⟨t465, t466, t467, t468, t469⟩ : S50)]) a2 (wrap64 (x26_2 + 1)) a3_0 a3_1 a3_2 a3_3 t472 t473 t474)) else (none)) = some (r1, r2) := H
       have A19 := Aside0.mk A190
       clear A190
       by_cases c20 : x11_2.length < 2513169434916
       ·rw [if_pos c20] at H
        have LMc20 := Aside0.mk c20
        clear c20
        obtain ⟨y475, hy475⟩ : ∃ y_ : List (S50), y_ = (x11_2 ++ [(⟨t465, t466, t467, t468, t469⟩ : S50)]) := ⟨_, rfl⟩
        replace H : (if t474 = true then (some ((([] : List (S50))), false)) else (impl_ReadTile.l0 k2 a0 y475 a2 (wrap64 (x26_2 + 1)) a3_0 a3_1 a3_2 a3_3 t472 t473 t474)) = some (r1, r2) := by first | (rw [hy475]; with_reducible exact H) | (have H2_ := (Option.bind_some _ _).symm.trans H; rw [hy475]; with_reducible exact H2_) | (have H2_ := (Option.bind_some _ _).symm.trans H; with_reducible exact H2_) | with_reducible exact H | (rw [hy475]; exact H) | exact H
        have Ny475 := Aside0.mk hy475
        clear hy475
        by_cases c21 : t474 = true
        ·subst c21
         have H1 : (some ((([] : List (S50))), false)) = some (r1, r2) := by rw [if_pos rfl] at H; exact H
         clear H
         have H := H1
         clear H1
         obtain ⟨y478, hy478⟩ : ∃ y_ : List (S50), y_ = (([] : List (S50))) := ⟨_, rfl⟩
         replace H : (some (y478, false)) = some (r1, r2) := by first | (rw [hy478]; with_reducible exact H) | (have H2_ := (Option.bind_some _ _).symm.trans H; rw [hy478]; with_reducible exact H2_) | (have H2_ := (Option.bind_some _ _).symm.trans H; with_reducible exact H2_) | with_reducible exact H | (rw [hy478]; exact H) | exact H
         have Ny478 := Aside0.mk hy478
         clear hy478
         simp only [Option.some.injEq, Prod.mk.injEq] at H
         obtain ⟨rfl, rfl⟩ := H
         have hnb22 := NB455_459.out
         have hnc22 := NB459_455.out
         have hcz23_0 : wr.cell? ⟨gb455, 0, none⟩ = some (.bool a3_0) := (blk_cell BK455.out 0).trans rfl
         have hcz23_1 : wr.cell? ⟨gb455, 1, none⟩ = some (.int .i64 a3_1) := (blk_cell BK455.out 1).trans rfl
         have hcz23_2 : wr.cell? ⟨gb455, 2, none⟩ = some (.bool a3_2) := (blk_cell BK455.out 2).trans rfl
         have hcz23_3 : wr.cell? ⟨gb455, 3, none⟩ = some (.bool a3_3) := (blk_cell BK455.out 3).trans rfl
         have hfz23_0 := blk_frozen BK455.out 0
         have hfz23_1 := blk_frozen BK455.out 1
         have hfz23_2 := blk_frozen BK455.out 2
         have hfz23_3 := blk_frozen BK455.out 3
         go_wp2_with (first | ((with_reducible refine gate_callee (f := 85) rfl ?_); refine goesL_ (some 31) rfl rfl Try.func85 (by kernel_rfl) rfl #[.pointer (some ⟨g459, 0, none⟩), .agg #[.bool a3_0, .int .i64 a3_1, .bool a3_2, .bool a3_3]] rfl (by (try simp only [List.map_toArray, List.map_cons, List.map_nil]); first | done | rfl | (simp only [List.length_drop, List.length_take]; rfl)) ?_; (with_reducible refine (impl_scan_square.calls k2 g459 x460000_2 x460001_2 x460002_2 a3_0 a3_1 a3_2 a3_3 t465 t466 t467 t468 t469 t472 t473 true w _ ?side1 ?side2 A19.out).mono ?_); (case side1 => repeat (first | (with_reducible first | exact HI459.out | apply IsS94.alloc | apply IsS94.drewN | apply IsS94.drew | apply IsS94.set_0 | apply IsS94.set_1 | apply IsS94.set_2 | refine IsS94.far ?_ NB459_455.out _) | exact HI459.out)); (case side2 => repeat (first | (with_reducible first | exact HB.out | apply below_alloc | apply pw_below_drewN | apply below_drew1 | refine below_set ?_ (IsS94.ge HI459.out) | refine below_set ?_ GE455.out) | exact HB.out)); rintro e w24 ⟨v470, rfl, ho0, hi, hb, hk⟩; refine ⟨_, rfl, ?_⟩; have n0_ := Aside0.mk (Kd.S_mono (Kd.S_told (Kd.S_oldK (IsS94.apartS (show IsS94 w _ g459 x460000_2 x460001_2 x460002_2 from by repeat (first | (with_reducible first | exact HI459.out | apply IsS94.alloc | apply IsS94.drewN | apply IsS94.drew | apply IsS94.set_0 | apply IsS94.set_1 | apply IsS94.set_2 | refine IsS94.far ?_ NB459_455.out _) | exact HI459.out)) (by (with_reducible repeat (first | apply Kd.S_alloc | apply Kd.S_drewN | apply Kd.S_drew)); exact HO_11.out) (by decide)) hk) (Kd.R_base ho0)) (fun _ h_ => h_.1)); have n1_ := Aside0.mk (KeepBut.blk hk (g' := gb455) (o := .cells #[.bool a3_0, .int .i64 a3_1, .bool a3_2, .bool a3_3] 40 (0, 0)) (by (with_reducible repeat (first | refine blk_drewN ?_ _ | refine blk_drew ?_ | refine blk_alloc ?_ _)); exact BK455.out) NB455_459.out (by simp)); have n2_ := Aside0.mk (Kd.R_lower ho0 (below_size (by repeat (first | (with_reducible first | exact HB.out | apply below_alloc | apply pw_below_drewN | apply below_drew1 | refine below_set ?_ (IsS94.ge HI459.out) | refine below_set ?_ GE455.out) | exact HB.out)))); have n3_ := Aside0.mk (hb); have n4_ := Aside0.mk (hi); clear HO_11; clear BK455; clear HB; clear HI459; have HO_11 := n0_; have BK455 := n1_; have HO471 := n2_; have HB := n3_; have HI459 := n4_; clear n0_ n1_ n2_ n3_ n4_; (try clear hb); (try clear hb2); (try clear hk); (try clear hi); (try clear ho0); obtain ⟨Ao26, co26, eo26⟩ := Kd.R_slice HO471.out; subst eo26) | ((with_reducible refine gate_builtin (b := .append) (xs := #[.tmp 28, .tmp 32]) rfl ?_); at_builtin; refine Kd.S_append k50 (w0 := w) w.heap.size rfl (.tmp 28) (.tmp 32) 38 50 (.agg #[(.int .i64 0), (.int .i64 0), (.int .i64 0), (.int .i64 0), (.slice none 0 0)]) 56 rfl Try.underlying38 info50 rfl (by decide) (by omega) u11 x11_2 (⟨t465, t466, t467, t468, t469⟩ : S50) [.int .i64 t465, .int .i64 t466, .int .i64 t467, .int .i64 t468, .slice Ao26 t469.length co26] (fun _ => True) (fun k_ => some k_ = (.slice Ao26 t469.length co26 : Value).ownBlock) rfl rfl ?aP (fun k_ hk_ => ((Kd.R_mono (ok' := fun k_ => ((fun _ => True)) k_ ∧ some k_ ≠ (u11 : Value).ownBlock) (Kd.R_apart' (HO471.out) (Kd.S_typed HO_11.out) (by decide)) (fun k_ hk => ⟨trivial, hk.2⟩))).1 k_ hk_.symm) ?aF ?aO ?aB ?aS ?aL ?_; (case aP => exact k50_mkM _ _ _ (⟨t465, t466, t467, t468, t469⟩ : S50) (Kd.R_mono (Kd.R_tight rfl (Kd.R_mono (ok' := fun k_ => ((fun _ => True)) k_ ∧ some k_ ≠ (u11 : Value).ownBlock) (Kd.R_apart' (HO471.out) (Kd.S_typed HO_11.out) (by decide)) (fun k_ hk => ⟨trivial, hk.2⟩))) (fun _ h_ => h_))); (case aB => exact (by repeat (first | (with_reducible first | exact HB.out | apply below_alloc | apply pw_below_drewN | apply below_drew1 | refine below_set ?_ (IsS94.ge HI459.out) | refine below_set ?_ GE455.out) | exact HB.out))); (case aF => exact (fun _ _ => trivial)); (case aO => exact (by (with_reducible repeat (first | apply Kd.S_alloc | apply Kd.S_drewN | apply Kd.S_drew)); exact Kd.S_mono HO_11.out (fun k_ hk => ⟨trivial, fun e_ => hk.2 e_⟩))); (case aS => exact (below_size (by repeat (first | (with_reducible first | exact HB.out | apply below_alloc | apply pw_below_drewN | apply below_drew1 | refine below_set ?_ (IsS94.ge HI459.out) | refine below_set ?_ GE455.out) | exact HB.out)))); (case aL => have := LMc20.out; omega); intro v476 w25 ho hb hg hat; rw [← Ny475.out] at ho; have n0_ := Aside0.mk (blk_grown (g := gb455) (o := .cells #[.bool a3_0, .int .i64 a3_1, .bool a3_2, .bool a3_3] 40 (0, 0)) (by (with_reducible repeat (first | refine blk_drewN ?_ _ | refine blk_drew ?_ | refine blk_alloc ?_ _)); exact BK455.out) hg (Kd.S_ne HO_11.out BK455.out (by decide))); have n1_ := Aside0.mk (IsS94.grown (by repeat (first | (with_reducible first | exact HI459.out | apply IsS94.alloc | apply IsS94.drewN | apply IsS94.drew | apply IsS94.set_0 | apply IsS94.set_1 | apply IsS94.set_2 | refine IsS94.far ?_ NB459_455.out _) | exact HI459.out)) hg (IsS94.own_neS HI459.out HO_11.out (by decide))); have n2_ := Aside0.mk (hb); have n3_ := Aside0.mk (ho); clear BK455; clear HI459; clear HB; clear HO_11; clear HO471; have BK455 := n0_; have HI459 := n1_; have HB := n2_; have HO477 := n3_; clear n0_ n1_ n2_ n3_; clear ho hb hg hat; obtain ⟨HGz27, hgz27⟩ := HI459.out; have hcz27_0 := cellS94_0 HGz27; have hcz27_1 := cellS94_1 HGz27; have hcz27_2 := cellS94_2 HGz27; have hfz27_0 := blk_frozen HGz27 0; have hfz27_1 := blk_frozen HGz27 1; have hfz27_2 := blk_frozen HGz27 2; clear HGz27 hgz27) | ((with_reducible refine gate_dst (N := 38) rfl ?_); refine Kd.S_lit k50 _ 50 ?hg (N := 38) ?hd (xs := ([] : List (S50))) (inner := []) (ok := fun _ => True) (okp := fun _ => True) ?hr ?hp (fun _ hk => hk) trivial (Below.refl _ _) (Nat.le_refl _) (by simp) ?_; (case hd => rfl); (case hg => rfl); (case hr => first | (go_simp; done) | (go_simp; rfl)); (case hp => exact (Reps.none _ _)); intro v479 w28 ho29 hb hg_ hnew_; clear hg_ hnew_; (first | rw [← Ny478.out] at ho29 | (simp only [Int.reduceToNat] at ho29; rw [← Ny478.out] at ho29)); have n0_ := Aside0.mk (Kd.S_elder' (by (with_reducible repeat (first | apply Kd.S_alloc | apply Kd.S_drewN | apply Kd.S_drew)); exact HO477.out) (Kd.S_base ho29) hb); have n1_ := Aside0.mk (Kd.S_lower (Kd.S_new' ho29 (Kd.S_lt (by (with_reducible repeat (first | apply Kd.S_alloc | apply Kd.S_drewN | apply Kd.S_drew)); exact HO477.out))) (below_size (by repeat (first | (with_reducible first | exact HB.out | apply below_alloc | apply pw_below_drewN | apply below_drew1 | refine below_set ?_ (IsS94.ge HI459.out) | refine below_set ?_ GE455.out) | exact HB.out)))); have n2_ := Aside0.mk (blk_below (g := gb455) (o := .cells #[.bool a3_0, .int .i64 a3_1, .bool a3_2, .bool a3_3] 40 (0, 0)) (by (with_reducible repeat (first | refine blk_drewN ?_ _ | refine blk_drew ?_ | refine blk_alloc ?_ _)); exact BK455.out) hb); have n3_ := Aside0.mk (IsS94.below (by repeat (first | (with_reducible first | exact HI459.out | apply IsS94.alloc | apply IsS94.drewN | apply IsS94.drew | apply IsS94.set_0 | apply IsS94.set_1 | apply IsS94.set_2 | refine IsS94.far ?_ NB459_455.out _) | exact HI459.out)) hb); have n4_ := Aside0.mk (below_step (by repeat (first | (with_reducible first | exact HB.out | apply below_alloc | apply pw_below_drewN | apply below_drew1 | refine below_set ?_ (IsS94.ge HI459.out) | refine below_set ?_ GE455.out) | exact HB.out)) hb); clear HO477; clear BK455; clear HI459; clear HB; have HO477 := n0_; have HO480 := n1_; have BK455 := n2_; have HI459 := n3_; have HB := n4_; clear n0_ n1_ n2_ n3_ n4_; clear hb ho29))
         go_ret2
         exact ⟨_, by first | rfl | (simp [errW_none, errW_some] <;> rfl) | (simp [*, errW_none, errW_some] <;> rfl), by (with_reducible repeat (first | apply Kd.S_alloc | apply Kd.S_drewN | apply Kd.S_drew)); exact Kd.S_mono HO480.out (fun _ hk => trivial), by repeat (first | (with_reducible first | exact HB.out | apply below_alloc | apply pw_below_drewN | apply below_drew1 | refine below_set ?_ (IsS94.ge HI459.out) | refine below_set ?_ GE455.out) | exact HB.out)⟩
        ·replace c21 := Bool.eq_false_iff.mpr c21
         subst c21
         have H1 : (impl_ReadTile.l0 k2 a0 y475 a2 (wrap64 (x26_2 + 1)) a3_0 a3_1 a3_2 a3_3 t472 t473 false) = some (r1, r2) := by rw [if_neg (show ¬ (false = true) by decide)] at H; exact H
         clear H
         have H := H1
         clear H1
         have H' := Aside0.mk H
         clear H
         have hnb30 := NB455_459.out
         have hnc30 := NB459_455.out
         have hcz31_0 : wr.cell? ⟨gb455, 0, none⟩ = some (.bool a3_0) := (blk_cell BK455.out 0).trans rfl
         have hcz31_1 : wr.cell? ⟨gb455, 1, none⟩ = some (.int .i64 a3_1) := (blk_cell BK455.out 1).trans rfl
         have hcz31_2 : wr.cell? ⟨gb455, 2, none⟩ = some (.bool a3_2) := (blk_cell BK455.out 2).trans rfl
         have hcz31_3 : wr.cell? ⟨gb455, 3, none⟩ = some (.bool a3_3) := (blk_cell BK455.out 3).trans rfl
         have hfz31_0 := blk_frozen BK455.out 0
         have hfz31_1 := blk_frozen BK455.out 1
         have hfz31_2 := blk_frozen BK455.out 2
         have hfz31_3 := blk_frozen BK455.out 3
         go_wp2_with (first | ((with_reducible refine gate_callee (f := 85) rfl ?_); refine goesL_ (some 31) rfl rfl Try.func85 (by kernel_rfl) rfl #[.pointer (some ⟨g459, 0, none⟩), .agg #[.bool a3_0, .int .i64 a3_1, .bool a3_2, .bool a3_3]] rfl (by (try simp only [List.map_toArray, List.map_cons, List.map_nil]); first | done | rfl | (simp only [List.length_drop, List.length_take]; rfl)) ?_; (with_reducible refine (impl_scan_square.calls k2 g459 x460000_2 x460001_2 x460002_2 a3_0 a3_1 a3_2 a3_3 t465 t466 t467 t468 t469 t472 t473 false w _ ?side1 ?side2 A19.out).mono ?_); (case side1 => repeat (first | (with_reducible first | exact HI459.out | apply IsS94.alloc | apply IsS94.drewN | apply IsS94.drew | apply IsS94.set_0 | apply IsS94.set_1 | apply IsS94.set_2 | refine IsS94.far ?_ NB459_455.out _) | exact HI459.out)); (case side2 => repeat (first | (with_reducible first | exact HB.out | apply below_alloc | apply pw_below_drewN | apply below_drew1 | refine below_set ?_ (IsS94.ge HI459.out) | refine below_set ?_ GE455.out) | exact HB.out)); rintro e w32 ⟨v470, rfl, ho0, hi, hb, hk⟩; refine ⟨_, rfl, ?_⟩; have n0_ := Aside0.mk (Kd.S_mono (Kd.S_told (Kd.S_oldK (IsS94.apartS (show IsS94 w _ g459 x460000_2 x460001_2 x460002_2 from by repeat (first | (with_reducible first | exact HI459.out | apply IsS94.alloc | apply IsS94.drewN | apply IsS94.drew | apply IsS94.set_0 | apply IsS94.set_1 | apply IsS94.set_2 | refine IsS94.far ?_ NB459_455.out _) | exact HI459.out)) (by (with_reducible repeat (first | apply Kd.S_alloc | apply Kd.S_drewN | apply Kd.S_drew)); exact HO_11.out) (by decide)) hk) (Kd.R_base ho0)) (fun _ h_ => h_.1)); have n1_ := Aside0.mk (KeepBut.blk hk (g' := gb455) (o := .cells #[.bool a3_0, .int .i64 a3_1, .bool a3_2, .bool a3_3] 40 (0, 0)) (by (with_reducible repeat (first | refine blk_drewN ?_ _ | refine blk_drew ?_ | refine blk_alloc ?_ _)); exact BK455.out) NB455_459.out (by simp)); have n2_ := Aside0.mk (Kd.R_lower ho0 (below_size (by repeat (first | (with_reducible first | exact HB.out | apply below_alloc | apply pw_below_drewN | apply below_drew1 | refine below_set ?_ (IsS94.ge HI459.out) | refine below_set ?_ GE455.out) | exact HB.out)))); have n3_ := Aside0.mk (hb); have n4_ := Aside0.mk (hi); clear HO_11; clear BK455; clear HB; clear HI459; have HO_11 := n0_; have BK455 := n1_; have HO471 := n2_; have HB := n3_; have HI459 := n4_; clear n0_ n1_ n2_ n3_ n4_; (try clear hb); (try clear hb2); (try clear hk); (try clear hi); (try clear ho0); obtain ⟨Ao34, co34, eo34⟩ := Kd.R_slice HO471.out; subst eo34) | ((with_reducible refine gate_builtin (b := .append) (xs := #[.tmp 28, .tmp 32]) rfl ?_); at_builtin; refine Kd.S_append k50 (w0 := w) w.heap.size rfl (.tmp 28) (.tmp 32) 38 50 (.agg #[(.int .i64 0), (.int .i64 0), (.int .i64 0), (.int .i64 0), (.slice none 0 0)]) 56 rfl Try.underlying38 info50 rfl (by decide) (by omega) u11 x11_2 (⟨t465, t466, t467, t468, t469⟩ : S50) [.int .i64 t465, .int .i64 t466, .int .i64 t467, .int .i64 t468, .slice Ao34 t469.length co34] (fun _ => True) (fun k_ => some k_ = (.slice Ao34 t469.length co34 : Value).ownBlock) rfl rfl ?aP (fun k_ hk_ => ((Kd.R_mono (ok' := fun k_ => ((fun _ => True)) k_ ∧ some k_ ≠ (u11 : Value).ownBlock) (Kd.R_apart' (HO471.out) (Kd.S_typed HO_11.out) (by decide)) (fun k_ hk => ⟨trivial, hk.2⟩))).1 k_ hk_.symm) ?aF ?aO ?aB ?aS ?aL ?_; (case aP => exact k50_mkM _ _ _ (⟨t465, t466, t467, t468, t469⟩ : S50) (Kd.R_mono (Kd.R_tight rfl (Kd.R_mono (ok' := fun k_ => ((fun _ => True)) k_ ∧ some k_ ≠ (u11 : Value).ownBlock) (Kd.R_apart' (HO471.out) (Kd.S_typed HO_11.out) (by decide)) (fun k_ hk => ⟨trivial, hk.2⟩))) (fun _ h_ => h_))); (case aB => exact (by repeat (first | (with_reducible first | exact HB.out | apply below_alloc | apply pw_below_drewN | apply below_drew1 | refine below_set ?_ (IsS94.ge HI459.out) | refine below_set ?_ GE455.out) | exact HB.out))); (case aF => exact (fun _ _ => trivial)); (case aO => exact (by (with_reducible repeat (first | apply Kd.S_alloc | apply Kd.S_drewN | apply Kd.S_drew)); exact Kd.S_mono HO_11.out (fun k_ hk => ⟨trivial, fun e_ => hk.2 e_⟩))); (case aS => exact (below_size (by repeat (first | (with_reducible first | exact HB.out | apply below_alloc | apply pw_below_drewN | apply below_drew1 | refine below_set ?_ (IsS94.ge HI459.out) | refine below_set ?_ GE455.out) | exact HB.out)))); (case aL => have := LMc20.out; omega); intro v476 w33 ho hb hg hat; rw [← Ny475.out] at ho; have n0_ := Aside0.mk (blk_grown (g := gb455) (o := .cells #[.bool a3_0, .int .i64 a3_1, .bool a3_2, .bool a3_3] 40 (0, 0)) (by (with_reducible repeat (first | refine blk_drewN ?_ _ | refine blk_drew ?_ | refine blk_alloc ?_ _)); exact BK455.out) hg (Kd.S_ne HO_11.out BK455.out (by decide))); have n1_ := Aside0.mk (IsS94.grown (by repeat (first | (with_reducible first | exact HI459.out | apply IsS94.alloc | apply IsS94.drewN | apply IsS94.drew | apply IsS94.set_0 | apply IsS94.set_1 | apply IsS94.set_2 | refine IsS94.far ?_ NB459_455.out _) | exact HI459.out)) hg (IsS94.own_neS HI459.out HO_11.out (by decide))); have n2_ := Aside0.mk (hb); have n3_ := Aside0.mk (ho); clear BK455; clear HI459; clear HB; clear HO_11; clear HO471; have BK455 := n0_; have HI459 := n1_; have HB := n2_; have HO477 := n3_; clear n0_ n1_ n2_ n3_; clear ho hb hg hat; obtain ⟨HGz35, hgz35⟩ := HI459.out; have hcz35_0 := cellS94_0 HGz35; have hcz35_1 := cellS94_1 HGz35; have hcz35_2 := cellS94_2 HGz35; have hfz35_0 := blk_frozen HGz35 0; have hfz35_1 := blk_frozen HGz35 1; have hfz35_2 := blk_frozen HGz35 2; clear HGz35 hgz35))
         go_roundg k2
         case measure => have := HJ5.out; have := HK2.out; omega
         case rel => exact ⟨(y475), (wrap64 (x26_2 + 1)), (t472), (t473), (false), (by first | rfl | (simp; done) | (simp [*]; done)), H', ⟨by have := HJ5.out; have := HK2.out; omega⟩, ⟨by (with_reducible repeat (first | apply Kd.S_alloc | apply Kd.S_drewN | apply Kd.S_drew)); exact HO477.out⟩, ⟨by (with_reducible repeat (first | refine blk_drewN ?_ _ | refine blk_drew ?_ | refine blk_alloc ?_ _)); exact BK455.out⟩, ⟨by repeat (first | (with_reducible first | exact HI459.out | apply IsS94.alloc | apply IsS94.drewN | apply IsS94.drew | apply IsS94.set_0 | apply IsS94.set_1 | apply IsS94.set_2 | refine IsS94.far ?_ NB459_455.out _) | exact HI459.out)⟩, ⟨by repeat (first | (with_reducible first | exact HB.out | apply below_alloc | apply pw_below_drewN | apply below_drew1 | refine below_set ?_ (IsS94.ge HI459.out) | refine below_set ?_ GE455.out) | exact HB.out)⟩⟩
       ·rw [if_neg c20] at H
        exact absurd H (by simp)
      ·rw [if_neg c18] at H
       have c18b0 : decide (x26_2 < a2) = false := decide_eq_false c18
       clear c18
       by_cases c36 : x460001_2 = (a0.size : Int)
       ·rw [if_pos c36] at H
        have c36b0 : (x460001_2 == (a0.size : Int)) = true := beq_iff_eq.mpr c36
        have c36b1 : (x460001_2 != (a0.size : Int)) = false := bne_eq_false_iff_eq.mpr c36
        clear c36
        simp only [Option.some.injEq, Prod.mk.injEq] at H
        obtain ⟨rfl, rfl⟩ := H
        obtain ⟨HGz37, hgz37⟩ := HI459.out
        have hcz37_0 := cellS94_0 HGz37
        have hcz37_1 := cellS94_1 HGz37
        have hcz37_2 := cellS94_2 HGz37
        have hfz37_0 := blk_frozen HGz37 0
        have hfz37_1 := blk_frozen HGz37 1
        have hfz37_2 := blk_frozen HGz37 2
        clear HGz37 hgz37
        go_wp2
        go_ret2
        exact ⟨_, by first | rfl | (simp [errW_none, errW_some] <;> rfl) | (simp [*, errW_none, errW_some] <;> rfl), by (with_reducible repeat (first | apply Kd.S_alloc | apply Kd.S_drewN | apply Kd.S_drew)); exact HO_11.out, by repeat (first | (with_reducible first | exact HB.out | apply below_alloc | apply pw_below_drewN | apply below_drew1 | refine below_set ?_ (IsS94.ge HI459.out) | refine below_set ?_ GE455.out) | exact HB.out)⟩
       ·rw [if_neg c36] at H
        have c36b0 : (x460001_2 == (a0.size : Int)) = false := beq_eq_false_iff_ne.mpr c36
        have c36b1 : (x460001_2 != (a0.size : Int)) = true := bne_iff_ne.mpr c36
        obtain ⟨y481, hy481⟩ : ∃ y_ : List (S50), y_ = (([] : List (S50))) := ⟨_, rfl⟩
        replace H : (some (y481, false)) = some (r1, r2) := by first | (rw [hy481]; with_reducible exact H) | (have H2_ := (Option.bind_some _ _).symm.trans H; rw [hy481]; with_reducible exact H2_) | (have H2_ := (Option.bind_some _ _).symm.trans H; with_reducible exact H2_) | with_reducible exact H | (rw [hy481]; exact H) | exact H
        have Ny481 := Aside0.mk hy481
        clear hy481
        simp only [Option.some.injEq, Prod.mk.injEq] at H
        obtain ⟨rfl, rfl⟩ := H
        obtain ⟨HGz38, hgz38⟩ := HI459.out
        have hcz38_0 := cellS94_0 HGz38
        have hcz38_1 := cellS94_1 HGz38
        have hcz38_2 := cellS94_2 HGz38
        have hfz38_0 := blk_frozen HGz38 0
        have hfz38_1 := blk_frozen HGz38 1
        have hfz38_2 := blk_frozen HGz38 2
        clear HGz38 hgz38
        go_wp2_with (first | ((with_reducible refine gate_dst (N := 47) rfl ?_); refine Kd.S_lit k50 _ 50 ?hg (N := 47) ?hd (xs := ([] : List (S50))) (inner := []) (ok := fun _ => True) (okp := fun _ => True) ?hr ?hp (fun _ hk => hk) trivial (Below.refl _ _) (Nat.le_refl _) (by simp) ?_; (case hd => rfl); (case hg => rfl); (case hr => first | (go_simp; done) | (go_simp; rfl)); (case hp => exact (Reps.none _ _)); intro v482 w39 ho40 hb hg_ hnew_; clear hg_ hnew_; (first | rw [← Ny481.out] at ho40 | (simp only [Int.reduceToNat] at ho40; rw [← Ny481.out] at ho40)); have n0_ := Aside0.mk (Kd.S_elder' (by (with_reducible repeat (first | apply Kd.S_alloc | apply Kd.S_drewN | apply Kd.S_drew)); exact HO_11.out) (Kd.S_base ho40) hb); have n1_ := Aside0.mk (Kd.S_lower (Kd.S_new' ho40 (Kd.S_lt (by (with_reducible repeat (first | apply Kd.S_alloc | apply Kd.S_drewN | apply Kd.S_drew)); exact HO_11.out))) (below_size (by repeat (first | (with_reducible first | exact HB.out | apply below_alloc | apply pw_below_drewN | apply below_drew1 | refine below_set ?_ (IsS94.ge HI459.out) | refine below_set ?_ GE455.out) | exact HB.out)))); have n2_ := Aside0.mk (blk_below (g := gb455) (o := .cells #[.bool a3_0, .int .i64 a3_1, .bool a3_2, .bool a3_3] 40 (0, 0)) (by (with_reducible repeat (first | refine blk_drewN ?_ _ | refine blk_drew ?_ | refine blk_alloc ?_ _)); exact BK455.out) hb); have n3_ := Aside0.mk (IsS94.below (by repeat (first | (with_reducible first | exact HI459.out | apply IsS94.alloc | apply IsS94.drewN | apply IsS94.drew | apply IsS94.set_0 | apply IsS94.set_1 | apply IsS94.set_2 | refine IsS94.far ?_ NB459_455.out _) | exact HI459.out)) hb); have n4_ := Aside0.mk (below_step (by repeat (first | (with_reducible first | exact HB.out | apply below_alloc | apply pw_below_drewN | apply below_drew1 | refine below_set ?_ (IsS94.ge HI459.out) | refine below_set ?_ GE455.out) | exact HB.out)) hb); clear HO_11; clear BK455; clear HI459; clear HB; have HO_11 := n0_; have HO483 := n1_; have BK455 := n2_; have HI459 := n3_; have HB := n4_; clear n0_ n1_ n2_ n3_ n4_; clear hb ho40))
        go_ret2
        exact ⟨_, by first | rfl | (simp [errW_none, errW_some] <;> rfl) | (simp [*, errW_none, errW_some] <;> rfl), by (with_reducible repeat (first | apply Kd.S_alloc | apply Kd.S_drewN | apply Kd.S_drew)); exact Kd.S_mono HO483.out (fun _ hk => trivial), by repeat (first | (with_reducible first | exact HB.out | apply below_alloc | apply pw_below_drewN | apply below_drew1 | refine below_set ?_ (IsS94.ge HI459.out) | refine below_set ?_ GE455.out) | exact HB.out)⟩

def laws_sameInts.l0 : Nat → List Int → List Int → Int → Option (Bool)
 | 0, _, _, _ => none
 | k + 1, x0, x1, x5 => if x5 < (x0.length : Int) then (if 0 ≤ x5 then (if x5 < (x1.length : Int) then (if (rd x0 x5) = (rd x1 x5) then (laws_sameInts.l0 k x0 x1 (wrap64 (x5 + 1))) else (some false)) else (none)) else (none)) else (some true)
def laws_sameInts.f (k : Nat) (l0 : List Int) (l1 : List Int) : Option (Bool) := if (l0.length : Int) = (l1.length : Int) then (laws_sameInts.l0 k l0 l1 0) else (some false)
theorem laws_sameInts.mono_l : ∀ k, (∀ y0 y1 y2, LeO (laws_sameInts.l0 k y0 y1 y2) (laws_sameInts.l0 (k + 1) y0 y1 y2))
 | 0 => fun _ _ _ r h => by simp [laws_sameInts.l0] at h
 | k + 1 => by
  have ih0 := laws_sameInts.mono_l k
  ·intro y0 y1 y2
   unfold laws_sameInts.l0
   repeat' first
   | (with_reducible exact ih0 _ _ _)
   | (with_reducible exact LeO.refl _)
   | (with_reducible exact LeO.none _)
   | (with_reducible refine LeO.ite ?_ ?_)
   | (with_reducible refine LeO.bind ?_ (fun _ => ?_))
   | exact ih0 _ _ _
   | exact LeO.none _
   | refine LeO.ite ?_ ?_
   | refine LeO.bind ?_ (fun _ => ?_)
theorem laws_sameInts.mono : ∀ a0 a1 k, LeO (laws_sameInts.f k a0 a1) (laws_sameInts.f (k + 1) a0 a1) := by
 intro a0 a1 k
 have ih0 := laws_sameInts.mono_l k
 unfold laws_sameInts.f
 repeat' first
   | (with_reducible exact ih0 _ _ _)
   | (with_reducible exact LeO.refl _)
   | (with_reducible exact LeO.none _)
   | (with_reducible refine LeO.ite ?_ ?_)
   | (with_reducible refine LeO.bind ?_ (fun _ => ?_))
   | exact ih0 _ _ _
   | exact LeO.none _
   | refine LeO.ite ?_ ?_
   | refine LeO.bind ?_ (fun _ => ?_)
set_option maxHeartbeats 8000000 in
set_option maxRecDepth 100000 in
theorem laws_sameInts.calls (k : Nat) (A0 : Option Addr) (c0 : Nat) (l0 : List Int) (A1 : Option Addr) (c1 : Nat) (l1 : List Int) (r : Bool) (w : World) (hr0 : Kd.C (Kd.int .i64) w A0 l0.length l0) (hc0 : l0.length ≤ c0) (hr1 : Kd.C (Kd.int .i64) w A1 l1.length l1) (hc1 : l1.length ≤ c1) (h : laws_sameInts.f k l0 l1 = some r) :
  Calls Try.prog 19 #[.slice A0 l0.length c0, .slice A1 l1.length c1] w fun e w' => e = .returned (.bool r) ∧ Drawn0 w w' := by
 have HR0 := Aside0.mk hr0
 have HC0 := Aside0.mk hc0
 clear hr0 hc0
 have HR1 := Aside0.mk hr1
 have HC1 := Aside0.mk hc1
 clear hr1 hc1
 have H : (if (l0.length : Int) = (l1.length : Int) then (laws_sameInts.l0 k l0 l1 0) else (some false)) = some r := h
 clear h
 by_cases c3 : (l0.length : Int) = (l1.length : Int)
 ·rw [if_pos c3] at H
  have c3b0 : ((l0.length : Int) == (l1.length : Int)) = true := beq_iff_eq.mpr c3
  have c3b1 : ((l0.length : Int) != (l1.length : Int)) = false := bne_eq_false_iff_eq.mpr c3
  have c3b2 : (l0.length == l1.length) = true := by first | simpa using c3 | (simp at c3 ⊢; omega)
  clear c3
  have H' := Aside0.mk H
  clear H
  go_enter Try.func19, Try.ntmps19
  go_wp2
  repeat (go_quiet (fail); try go_wp2)
  go_loopg [5] k (fun kq v5 w' => ∃ (x5_1 : Int), v5 = .int .i64 x5_1 ∧ Aside0 (laws_sameInts.l0 kq l0 l1 x5_1 = some r) ∧ Aside0 (kq ≤ k) ∧ Drawn0 w w')
  case atStart => exact ⟨(0), (by first | rfl | (simp; done) | (simp [*]; done)), H', ⟨Nat.le_refl _⟩, by repeat (first | exact Drawn0.refl _ | apply Drawn0.step)⟩
  case round =>
   clear H'
   try clear c1
   try clear p2
   try clear c3
   try clear c3b0
   try clear c3b1
   try clear c3b2
   obtain ⟨x5_1, rfl, HA, HK1, ⟨m1, rfl⟩⟩ := hrel
   cases gk with
   | zero => exact absurd HA.out (by simp [laws_sameInts.l0])
   | succ k1 =>
    have H := HA.out
    clear HA
    simp only [laws_sameInts.l0] at H
    by_cases c4 : x5_1 < (l0.length : Int)
    ·rw [if_pos c4] at H
     have c4b0 : decide (x5_1 < (l0.length : Int)) = true := decide_eq_true c4
     clear c4
     by_cases c5 : 0 ≤ x5_1
     ·rw [if_pos c5] at H
      have c5b0 : decide (0 ≤ x5_1) = true := decide_eq_true c5
      clear c5
      by_cases c6 : x5_1 < (l1.length : Int)
      ·rw [if_pos c6] at H
       have c6b0 : decide (x5_1 < (l1.length : Int)) = true := decide_eq_true c6
       clear c6
       by_cases c7 : (rd l0 x5_1) = (rd l1 x5_1)
       ·rw [if_pos c7] at H
        have c7b0 : ((rd l0 x5_1) == (rd l1 x5_1)) = true := beq_iff_eq.mpr c7
        have c7b1 : ((rd l0 x5_1) != (rd l1 x5_1)) = false := bne_eq_false_iff_eq.mpr c7
        clear c7
        have H' := Aside0.mk H
        clear H
        have p484 : 0 ≤ (x5_1 : Int) := of_decide_eq_true (by first | (with_reducible assumption) | assumption)
        have q484 : x5_1 < (l0.length : Int) := of_decide_eq_true (by first | (with_reducible assumption) | assumption)
        obtain ⟨ad484, e484, hx484_0⟩ := Kd.at_int HR0.out x5_1 p484 q484
        cases e484
        replace p484 := eq_true p484
        replace q484 := eq_true q484
        have p485 : 0 ≤ (x5_1 : Int) := of_decide_eq_true (by first | (with_reducible assumption) | assumption)
        have q485 : x5_1 < (l1.length : Int) := of_decide_eq_true (by first | (with_reducible assumption) | assumption)
        obtain ⟨ad485, e485, hx485_0⟩ := Kd.at_int HR1.out x5_1 p485 q485
        cases e485
        replace p485 := eq_true p485
        replace q485 := eq_true q485
        go_wp2
        repeat (go_quiet (fail); try go_wp2)
        go_roundg k1
        case measure => have := HK1.out; omega
        case rel => exact ⟨(wrap64 (x5_1 + 1)), (by first | rfl | (simp; done) | (simp [*]; done)), H', ⟨by have := HK1.out; omega⟩, by repeat (first | exact Drawn0.refl _ | apply Drawn0.step)⟩
       ·rw [if_neg c7] at H
        have c7b0 : ((rd l0 x5_1) == (rd l1 x5_1)) = false := beq_eq_false_iff_ne.mpr c7
        have c7b1 : ((rd l0 x5_1) != (rd l1 x5_1)) = true := bne_iff_ne.mpr c7
        obtain rfl := Option.some.inj H
        have p484 : 0 ≤ (x5_1 : Int) := of_decide_eq_true (by first | (with_reducible assumption) | assumption)
        have q484 : x5_1 < (l0.length : Int) := of_decide_eq_true (by first | (with_reducible assumption) | assumption)
        obtain ⟨ad484, e484, hx484_0⟩ := Kd.at_int HR0.out x5_1 p484 q484
        cases e484
        replace p484 := eq_true p484
        replace q484 := eq_true q484
        have p485 : 0 ≤ (x5_1 : Int) := of_decide_eq_true (by first | (with_reducible assumption) | assumption)
        have q485 : x5_1 < (l1.length : Int) := of_decide_eq_true (by first | (with_reducible assumption) | assumption)
        obtain ⟨ad485, e485, hx485_0⟩ := Kd.at_int HR1.out x5_1 p485 q485
        cases e485
        replace p485 := eq_true p485
        replace q485 := eq_true q485
        go_wp2
        repeat (go_quiet (fail); try go_wp2)
        go_ret
        exact ⟨by first | rfl | (simp; done) | (simp [*]; done), by repeat (first | exact Drawn0.refl _ | apply Drawn0.step)⟩
      ·rw [if_neg c6] at H
       exact absurd H (by simp)
     ·rw [if_neg c5] at H
      exact absurd H (by simp)
    ·rw [if_neg c4] at H
     have c4b0 : decide (x5_1 < (l0.length : Int)) = false := decide_eq_false c4
     clear c4
     obtain rfl := Option.some.inj H
     go_wp2
     repeat (go_quiet (fail); try go_wp2)
     go_ret
     exact ⟨by first | rfl | (simp; done) | (simp [*]; done), by repeat (first | exact Drawn0.refl _ | apply Drawn0.step)⟩
 ·rw [if_neg c3] at H
  have c3b0 : ((l0.length : Int) == (l1.length : Int)) = false := beq_eq_false_iff_ne.mpr c3
  have c3b1 : ((l0.length : Int) != (l1.length : Int)) = true := bne_iff_ne.mpr c3
  have c3b2 : (l0.length == l1.length) = false := by first | simpa using c3 | (simp at c3 ⊢; omega)
  obtain rfl := Option.some.inj H
  go_enter Try.func19, Try.ntmps19
  go_wp2
  repeat (go_quiet (fail); try go_wp2)
  go_ret
  exact ⟨by first | rfl | (simp; done) | (simp [*]; done), by repeat (first | exact Drawn0.refl _ | apply Drawn0.step)⟩

end Go.Proofs.Ytlmlkoalicjlhaa.QFnTileRows
