/- What the law reaches, as plain functions, each with the proof that its call comes to its answer: written by a program for this claim. -/
import Derived.Test.YtnaccgommclhaaaQFnExactReadTilex0
import Derived.Test.YtnaccgommclhaaaQFnExactReadTilex1
import Derived.Test.YtnaccgommclhaaaQFnExactReadTilex6
import Derived.Test.YtnaccgommclhaaaQFnExactReadTilex9
import Derived.Test.YtnaccgommclhaaaQFnExactReadTilex10
namespace Go.Proofs.Ytnaccgommclhaaa.QFnExactReadTile
open Go.RowKit Go.Proofs.YtnaccgommclhaaaW.PrintWords Go.Proofs.YtnaccgommclhaaaW.PrintLast Go.Proofs.YtnaccgommclhaaaW.PrintMore Go.Proofs.YtnaccgommclhaaaV
attribute [local go_sem] max2_int min2_int max_two min_two max_three min_three max_four min_four   -- for this text's walks alone
set_option linter.unusedVariables false
set_option linter.unusedSimpArgs false

mutual
def laws_FnExactReadTile.j0 : Nat → ByteArray → Int → Int → List (S63) → Bool → List (S63) → Bool → Bool → Int → Bool → Bool → Option (Bool)
 | 0, _, _, _, _, _, _, _, _, _, _, _ => none
 | k + 1, x0, x1, x2, x9, x10, x11, x46, x379000, x379001, x379002, x379003 => if x46 = true then (some false) else ((laws_markSquareS.f k x11 1).bind fun q396 => ((laws_heldSquareS.f k q396.2 1).bind fun t397 => (if t397 < 0 then (some false) else (if t397 = q396.1 then ((laws_toCond.f x379000 x379001 x379002 x379003).bind fun bt398 => ((impl_ReadTile.f k x0 x1 x2 bt398.1 bt398.2.1 bt398.2.2.1 bt398.2.2.2).bind fun bt402 => ((laws_eqSquareS.f k bt402.1 x9).bind fun t406 => (if t406 = true then (laws_FnExactReadTile.j1 k q396.2 q396.1 (bt402.2 != x10)) else (laws_FnExactReadTile.j1 k q396.2 q396.1 true))))) else (some false)))))
def laws_FnExactReadTile.j1 : Nat → List (S63) → Int → Bool → Option (Bool)
 | 0, _, _, _ => none
 | k + 1, x11, x13, x75 => if x75 = true then (some false) else ((laws_heldSquareS.f k x11 1).bind fun t407 => (if t407 < 0 then (some false) else (if t407 = x13 then (some true) else (some false))))
end
def laws_FnExactReadTile.f (k : Nat) (a0 : ByteArray) (a1 : Int) (a2 : Int) (a3_0 : Bool) (a3_1 : Int) (a3_2 : Bool) (a3_3 : Bool) : Option (Bool) := if (a0.size : Int) > 1048576 then (some true) else ((laws_toCond.f a3_0 a3_1 a3_2 a3_3).bind fun bt379 => ((spec_ReadTile.f k a0 a1 a2 bt379.1 bt379.2.1 bt379.2.2.1 bt379.2.2.2).bind fun bt383 => ((laws_toCond.f a3_0 a3_1 a3_2 a3_3).bind fun bt387 => ((impl_ReadTile.f k a0 a1 a2 bt387.1 bt387.2.1 bt387.2.2.1 bt387.2.2.2).bind fun bt391 => ((laws_eqSquareS.f k bt391.1 bt383.1).bind fun t395 => (if t395 = true then (laws_FnExactReadTile.j0 k a0 a1 a2 bt383.1 bt383.2 bt391.1 (bt391.2 != bt383.2) a3_0 a3_1 a3_2 a3_3) else (laws_FnExactReadTile.j0 k a0 a1 a2 bt383.1 bt383.2 bt391.1 true a3_0 a3_1 a3_2 a3_3)))))))
theorem laws_FnExactReadTile.mono_l : ∀ k, (∀ y0 y1 y2 y3 y4 y5 y6 y7 y8 y9 y10, LeO (laws_FnExactReadTile.j0 k y0 y1 y2 y3 y4 y5 y6 y7 y8 y9 y10) (laws_FnExactReadTile.j0 (k + 1) y0 y1 y2 y3 y4 y5 y6 y7 y8 y9 y10)) ∧ (∀ y0 y1 y2, LeO (laws_FnExactReadTile.j1 k y0 y1 y2) (laws_FnExactReadTile.j1 (k + 1) y0 y1 y2))
 | 0 => ⟨fun _ _ _ _ _ _ _ _ _ _ _ r h => by simp [laws_FnExactReadTile.j0] at h, fun _ _ _ r h => by simp [laws_FnExactReadTile.j1] at h⟩
 | k + 1 => by
  obtain ⟨ih0, ih1⟩ := laws_FnExactReadTile.mono_l k
  refine ⟨?_, ?_⟩
  ·intro y0 y1 y2 y3 y4 y5 y6 y7 y8 y9 y10
   unfold laws_FnExactReadTile.j0
   repeat' first
   | (with_reducible exact ih0 _ _ _ _ _ _ _ _ _ _ _)
   | (with_reducible exact ih1 _ _ _)
   | (with_reducible exact impl_ReadTile.mono _ _ _ _ _ _ _ _)
   | (with_reducible exact laws_eqSquareS.mono _ _ _)
   | (with_reducible exact laws_heldSquareS.mono _ _ _)
   | (with_reducible exact laws_markSquareS.mono _ _ _)
   | (with_reducible exact spec_ReadTile.mono _ _ _ _ _ _ _ _)
   | (with_reducible exact LeO.refl _)
   | (with_reducible exact LeO.none _)
   | (with_reducible refine LeO.ite ?_ ?_)
   | (with_reducible refine LeO.bind ?_ (fun _ => ?_))
   | exact ih0 _ _ _ _ _ _ _ _ _ _ _
   | exact ih1 _ _ _
   | exact impl_ReadTile.mono _ _ _ _ _ _ _ _
   | exact laws_eqSquareS.mono _ _ _
   | exact laws_heldSquareS.mono _ _ _
   | exact laws_markSquareS.mono _ _ _
   | exact spec_ReadTile.mono _ _ _ _ _ _ _ _
   | exact LeO.none _
   | refine LeO.ite ?_ ?_
   | refine LeO.bind ?_ (fun _ => ?_)
  ·intro y0 y1 y2
   unfold laws_FnExactReadTile.j1
   repeat' first
   | (with_reducible exact ih0 _ _ _ _ _ _ _ _ _ _ _)
   | (with_reducible exact ih1 _ _ _)
   | (with_reducible exact impl_ReadTile.mono _ _ _ _ _ _ _ _)
   | (with_reducible exact laws_eqSquareS.mono _ _ _)
   | (with_reducible exact laws_heldSquareS.mono _ _ _)
   | (with_reducible exact laws_markSquareS.mono _ _ _)
   | (with_reducible exact spec_ReadTile.mono _ _ _ _ _ _ _ _)
   | (with_reducible exact LeO.refl _)
   | (with_reducible exact LeO.none _)
   | (with_reducible refine LeO.ite ?_ ?_)
   | (with_reducible refine LeO.bind ?_ (fun _ => ?_))
   | exact ih0 _ _ _ _ _ _ _ _ _ _ _
   | exact ih1 _ _ _
   | exact impl_ReadTile.mono _ _ _ _ _ _ _ _
   | exact laws_eqSquareS.mono _ _ _
   | exact laws_heldSquareS.mono _ _ _
   | exact laws_markSquareS.mono _ _ _
   | exact spec_ReadTile.mono _ _ _ _ _ _ _ _
   | exact LeO.none _
   | refine LeO.ite ?_ ?_
   | refine LeO.bind ?_ (fun _ => ?_)
theorem laws_FnExactReadTile.mono : ∀ a0 a1 a2 a3 a4 a5 a6 k, LeO (laws_FnExactReadTile.f k a0 a1 a2 a3 a4 a5 a6) (laws_FnExactReadTile.f (k + 1) a0 a1 a2 a3 a4 a5 a6) := by
 intro a0 a1 a2 a3 a4 a5 a6 k
 obtain ⟨ih0, ih1⟩ := laws_FnExactReadTile.mono_l k
 unfold laws_FnExactReadTile.f
 repeat' first
   | (with_reducible exact ih0 _ _ _ _ _ _ _ _ _ _ _)
   | (with_reducible exact ih1 _ _ _)
   | (with_reducible exact impl_ReadTile.mono _ _ _ _ _ _ _ _)
   | (with_reducible exact laws_eqSquareS.mono _ _ _)
   | (with_reducible exact laws_heldSquareS.mono _ _ _)
   | (with_reducible exact laws_markSquareS.mono _ _ _)
   | (with_reducible exact spec_ReadTile.mono _ _ _ _ _ _ _ _)
   | (with_reducible exact LeO.refl _)
   | (with_reducible exact LeO.none _)
   | (with_reducible refine LeO.ite ?_ ?_)
   | (with_reducible refine LeO.bind ?_ (fun _ => ?_))
   | exact ih0 _ _ _ _ _ _ _ _ _ _ _
   | exact ih1 _ _ _
   | exact impl_ReadTile.mono _ _ _ _ _ _ _ _
   | exact laws_eqSquareS.mono _ _ _
   | exact laws_heldSquareS.mono _ _ _
   | exact laws_markSquareS.mono _ _ _
   | exact spec_ReadTile.mono _ _ _ _ _ _ _ _
   | exact LeO.none _
   | refine LeO.ite ?_ ?_
   | refine LeO.bind ?_ (fun _ => ?_)
set_option maxHeartbeats 8000000 in
set_option maxRecDepth 100000 in
theorem laws_FnExactReadTile.calls (k : Nat) (a0 : ByteArray) (a1 : Int) (a2 : Int) (a3_0 : Bool) (a3_1 : Int) (a3_2 : Bool) (a3_3 : Bool) (r : Bool) (w : World) (h : laws_FnExactReadTile.f k a0 a1 a2 a3_0 a3_1 a3_2 a3_3 = some r) :
  Calls Try.prog 6 #[.string a0, .int .i64 a1, .int .i64 a2, .agg #[.bool a3_0, .int .i64 a3_1, .bool a3_2, .bool a3_3]] w fun e w' => e = .returned (.bool r) ∧ Below w.heap.size w w' := by
 have hu44 := Try.underlying44
 have HB := Aside0.mk (Below.refl w.heap.size w)
 have H : (if (a0.size : Int) > 1048576 then (some true) else ((laws_toCond.f a3_0 a3_1 a3_2 a3_3).bind fun bt379 => ((spec_ReadTile.f k a0 a1 a2 bt379.1 bt379.2.1 bt379.2.2.1 bt379.2.2.2).bind fun bt383 => ((laws_toCond.f a3_0 a3_1 a3_2 a3_3).bind fun bt387 => ((impl_ReadTile.f k a0 a1 a2 bt387.1 bt387.2.1 bt387.2.2.1 bt387.2.2.2).bind fun bt391 => ((laws_eqSquareS.f k bt391.1 bt383.1).bind fun t395 => (if t395 = true then (laws_FnExactReadTile.j0 k a0 a1 a2 bt383.1 bt383.2 bt391.1 (bt391.2 != bt383.2) a3_0 a3_1 a3_2 a3_3) else (laws_FnExactReadTile.j0 k a0 a1 a2 bt383.1 bt383.2 bt391.1 true a3_0 a3_1 a3_2 a3_3)))))))) = some r := h
 clear h
 by_cases c5 : (a0.size : Int) > 1048576
 ·rw [if_pos c5] at H
  have c5b0 : decide (1048576 < (a0.size : Int)) = true := decide_eq_true c5
  have c5b1 : decide (1048576 < a0.size) = true := decide_eq_true (by omega)
  clear c5
  obtain rfl := Option.some.inj H
  go_enter Try.func6, Try.ntmps6
  go_wp2_with (first | ((with_reducible refine gate_dst (N := 7) rfl ?_); refine box_event ?hg (N := 7) ?hd (cs := #[.bool a3_0, .int .i64 a3_1, .bool a3_2, .bool a3_3]) (t := 44) ?hr ?_; (case hd => rfl); (case hg => rfl); (case hr => first | (go_simp; done) | (go_simp; rfl)); intro gb378 hg w6 hbox hb; have n0_ := Aside0.mk (below_step (by repeat (first | (with_reducible first | exact HB.out | apply below_alloc | apply pw_below_drewN | apply below_drew1) | exact HB.out)) hb); have n1_ := Aside0.mk (hbox); have n2_ := Aside0.mk ((by rw [hg]; exact (below_size (by repeat (first | (with_reducible first | exact HB.out | apply below_alloc | apply pw_below_drewN | apply below_drew1) | exact HB.out))) : w.heap.size ≤ gb378)); have n3_ := Aside0.mk ((by rw [hg]; exact (below_size (by repeat (first | (with_reducible first | exact HB.out | apply below_alloc | apply pw_below_drewN | apply below_drew1) | exact HB.out))) : w.heap.size ≤ gb378)); clear HB; have HB := n0_; have BK378 := n1_; have GW378 := n2_; have GE378 := n3_; clear n0_ n1_ n2_ n3_; clear hb hbox hg))
  go_ret
  exact ⟨by first | rfl | (simp [errW_none, errW_some] <;> rfl) | (simp [*, errW_none, errW_some] <;> rfl), by repeat (first | (with_reducible first | exact HB.out | apply below_alloc | apply pw_below_drewN | apply below_drew1 | refine below_set ?_ GE378.out) | exact HB.out)⟩
 ·rw [if_neg c5] at H
  have c5b0 : decide (1048576 < (a0.size : Int)) = false := decide_eq_false c5
  have c5b1 : decide (1048576 < a0.size) = false := decide_eq_false (by omega)
  clear c5
  replace H := Option.bind_eq_some_iff.mp H
  obtain ⟨⟨t379, t380, t381, t382⟩, A70, H⟩ := H
  replace H : ((spec_ReadTile.f k a0 a1 a2 t379 t380 t381 t382).bind fun bt383 => ((laws_toCond.f a3_0 a3_1 a3_2 a3_3).bind fun bt387 => ((impl_ReadTile.f k a0 a1 a2 bt387.1 bt387.2.1 bt387.2.2.1 bt387.2.2.2).bind fun bt391 => ((laws_eqSquareS.f k bt391.1 bt383.1).bind fun t395 => (if t395 = true then (laws_FnExactReadTile.j0 k a0 a1 a2 bt383.1 bt383.2 bt391.1 (bt391.2 != bt383.2) a3_0 a3_1 a3_2 a3_3) else (laws_FnExactReadTile.j0 k a0 a1 a2 bt383.1 bt383.2 bt391.1 true a3_0 a3_1 a3_2 a3_3)))))) = some r := H
  have A7 := Aside0.mk A70
  clear A70
  replace H := Option.bind_eq_some_iff.mp H
  obtain ⟨⟨t383, t386⟩, A80, H⟩ := H
  replace H : ((laws_toCond.f a3_0 a3_1 a3_2 a3_3).bind fun bt387 => ((impl_ReadTile.f k a0 a1 a2 bt387.1 bt387.2.1 bt387.2.2.1 bt387.2.2.2).bind fun bt391 => ((laws_eqSquareS.f k bt391.1 t383).bind fun t395 => (if t395 = true then (laws_FnExactReadTile.j0 k a0 a1 a2 t383 t386 bt391.1 (bt391.2 != t386) a3_0 a3_1 a3_2 a3_3) else (laws_FnExactReadTile.j0 k a0 a1 a2 t383 t386 bt391.1 true a3_0 a3_1 a3_2 a3_3))))) = some r := H
  have A8 := Aside0.mk A80
  clear A80
  replace H := Option.bind_eq_some_iff.mp H
  obtain ⟨⟨t387, t388, t389, t390⟩, A90, H⟩ := H
  replace H : ((impl_ReadTile.f k a0 a1 a2 t387 t388 t389 t390).bind fun bt391 => ((laws_eqSquareS.f k bt391.1 t383).bind fun t395 => (if t395 = true then (laws_FnExactReadTile.j0 k a0 a1 a2 t383 t386 bt391.1 (bt391.2 != t386) a3_0 a3_1 a3_2 a3_3) else (laws_FnExactReadTile.j0 k a0 a1 a2 t383 t386 bt391.1 true a3_0 a3_1 a3_2 a3_3)))) = some r := H
  have A9 := Aside0.mk A90
  clear A90
  replace H := Option.bind_eq_some_iff.mp H
  obtain ⟨⟨t391, t394⟩, A100, H⟩ := H
  replace H : ((laws_eqSquareS.f k t391 t383).bind fun t395 => (if t395 = true then (laws_FnExactReadTile.j0 k a0 a1 a2 t383 t386 t391 (t394 != t386) a3_0 a3_1 a3_2 a3_3) else (laws_FnExactReadTile.j0 k a0 a1 a2 t383 t386 t391 true a3_0 a3_1 a3_2 a3_3))) = some r := H
  have A10 := Aside0.mk A100
  clear A100
  have HC11 := Aside0.mk H
  clear H
  go_enter Try.func6, Try.ntmps6
  go_upto_region 5 with (first | ((with_reducible refine gate_dst (N := 7) rfl ?_); refine box_event ?hg (N := 7) ?hd (cs := #[.bool a3_0, .int .i64 a3_1, .bool a3_2, .bool a3_3]) (t := 44) ?hr ?_; (case hd => rfl); (case hg => rfl); (case hr => first | (go_simp; done) | (go_simp; rfl)); intro gb378 hg w12 hbox hb; have n0_ := Aside0.mk (below_step (by repeat (first | (with_reducible first | exact HB.out | apply below_alloc | apply pw_below_drewN | apply below_drew1) | exact HB.out)) hb); have n1_ := Aside0.mk (hbox); have n2_ := Aside0.mk ((by rw [hg]; exact (below_size (by repeat (first | (with_reducible first | exact HB.out | apply below_alloc | apply pw_below_drewN | apply below_drew1) | exact HB.out))) : w.heap.size ≤ gb378)); have n3_ := Aside0.mk ((by rw [hg]; exact (below_size (by repeat (first | (with_reducible first | exact HB.out | apply below_alloc | apply pw_below_drewN | apply below_drew1) | exact HB.out))) : w.heap.size ≤ gb378)); clear HB; have HB := n0_; have BK378 := n1_; have GW378 := n2_; have GE378 := n3_; clear n0_ n1_ n2_ n3_; clear hb hbox hg; have hcz13_0 : w12.cell? ⟨gb378, 0, none⟩ = some (.bool a3_0) := (blk_cell BK378.out 0).trans rfl; have hcz13_1 : w12.cell? ⟨gb378, 1, none⟩ = some (.int .i64 a3_1) := (blk_cell BK378.out 1).trans rfl; have hcz13_2 : w12.cell? ⟨gb378, 2, none⟩ = some (.bool a3_2) := (blk_cell BK378.out 2).trans rfl; have hcz13_3 : w12.cell? ⟨gb378, 3, none⟩ = some (.bool a3_3) := (blk_cell BK378.out 3).trans rfl; have hfz13_0 := blk_frozen BK378.out 0; have hfz13_1 := blk_frozen BK378.out 1; have hfz13_2 := blk_frozen BK378.out 2; have hfz13_3 := blk_frozen BK378.out 3) | ((with_reducible refine gate_callee (f := 23) rfl ?_); refine goesL_ (some 25) rfl rfl Try.func23 (by kernel_rfl) rfl #[.agg #[.bool a3_0, .int .i64 a3_1, .bool a3_2, .bool a3_3]] rfl (by (try simp only [List.map_toArray, List.map_cons, List.map_nil]); first | done | rfl | (simp only [List.length_drop, List.length_take]; rfl)) ?_; (with_reducible refine (laws_toCond.calls a3_0 a3_1 a3_2 a3_3 t379 t380 t381 t382 _ A7.out).mono ?_); rintro e w14 ⟨rfl, hb⟩; refine ⟨_, rfl, ?_⟩; have n0_ := Aside0.mk (blk_below (g := gb378) (o := .cells #[.bool a3_0, .int .i64 a3_1, .bool a3_2, .bool a3_3] 44 (0, 0)) (by (with_reducible repeat (first | refine blk_drewN ?_ _ | refine blk_drew ?_ | refine blk_alloc ?_ _)); exact BK378.out) hb); have n1_ := Aside0.mk (below_step (by repeat (first | (with_reducible first | exact HB.out | apply below_alloc | apply pw_below_drewN | apply below_drew1 | refine below_set ?_ GE378.out) | exact HB.out)) hb); clear BK378; clear HB; have BK378 := n0_; have HB := n1_; clear n0_ n1_; (try clear hb); (try clear hb2); (try clear hk); (try clear hi)) | ((with_reducible refine gate_callee (f := 26) rfl ?_); refine goesL_ (some 26) rfl rfl Try.func26 (by kernel_rfl) rfl #[.string a0, .int .i64 a1, .int .i64 a2, .agg #[.bool t379, .int .i64 t380, .bool t381, .bool t382]] rfl (by (try simp only [List.map_toArray, List.map_cons, List.map_nil]); first | done | rfl | (simp only [List.length_drop, List.length_take]; rfl)) ?_; (with_reducible refine (spec_ReadTile.calls k a0 a1 a2 t379 t380 t381 t382 t383 t386 _ A8.out).mono ?_); rintro e w15 ⟨v384, rfl, ho0, hb⟩; refine ⟨_, rfl, ?_⟩; have n0_ := Aside0.mk (Kd.S_lower ho0 (below_size (by repeat (first | (with_reducible first | exact HB.out | apply below_alloc | apply pw_below_drewN | apply below_drew1 | refine below_set ?_ GE378.out) | exact HB.out)))); have n1_ := Aside0.mk (blk_below (g := gb378) (o := .cells #[.bool a3_0, .int .i64 a3_1, .bool a3_2, .bool a3_3] 44 (0, 0)) (by (with_reducible repeat (first | refine blk_drewN ?_ _ | refine blk_drew ?_ | refine blk_alloc ?_ _)); exact BK378.out) hb); have n2_ := Aside0.mk (below_step (by repeat (first | (with_reducible first | exact HB.out | apply below_alloc | apply pw_below_drewN | apply below_drew1 | refine below_set ?_ GE378.out) | exact HB.out)) hb); clear BK378; clear HB; have HO385 := n0_; have BK378 := n1_; have HB := n2_; clear n0_ n1_ n2_; (try clear hb); (try clear hb2); (try clear hk); (try clear hi); (try clear ho0); have hcz16_0 : w15.cell? ⟨gb378, 0, none⟩ = some (.bool a3_0) := (blk_cell BK378.out 0).trans rfl; have hcz16_1 : w15.cell? ⟨gb378, 1, none⟩ = some (.int .i64 a3_1) := (blk_cell BK378.out 1).trans rfl; have hcz16_2 : w15.cell? ⟨gb378, 2, none⟩ = some (.bool a3_2) := (blk_cell BK378.out 2).trans rfl; have hcz16_3 : w15.cell? ⟨gb378, 3, none⟩ = some (.bool a3_3) := (blk_cell BK378.out 3).trans rfl; have hfz16_0 := blk_frozen BK378.out 0; have hfz16_1 := blk_frozen BK378.out 1; have hfz16_2 := blk_frozen BK378.out 2; have hfz16_3 := blk_frozen BK378.out 3) | ((with_reducible refine gate_callee (f := 23) rfl ?_); refine goesL_ (some 34) rfl rfl Try.func23 (by kernel_rfl) rfl #[.agg #[.bool a3_0, .int .i64 a3_1, .bool a3_2, .bool a3_3]] rfl (by (try simp only [List.map_toArray, List.map_cons, List.map_nil]); first | done | rfl | (simp only [List.length_drop, List.length_take]; rfl)) ?_; (with_reducible refine (laws_toCond.calls a3_0 a3_1 a3_2 a3_3 t387 t388 t389 t390 _ A9.out).mono ?_); rintro e w17 ⟨rfl, hb⟩; refine ⟨_, rfl, ?_⟩; have n0_ := Aside0.mk (Kd.S_below (by (with_reducible repeat (first | apply Kd.S_alloc | apply Kd.S_drewN | apply Kd.S_drew)); exact HO385.out) hb); have n1_ := Aside0.mk (blk_below (g := gb378) (o := .cells #[.bool a3_0, .int .i64 a3_1, .bool a3_2, .bool a3_3] 44 (0, 0)) (by (with_reducible repeat (first | refine blk_drewN ?_ _ | refine blk_drew ?_ | refine blk_alloc ?_ _)); exact BK378.out) hb); have n2_ := Aside0.mk (below_step (by repeat (first | (with_reducible first | exact HB.out | apply below_alloc | apply pw_below_drewN | apply below_drew1 | refine below_set ?_ GE378.out) | exact HB.out)) hb); clear HO385; clear BK378; clear HB; have HO385 := n0_; have BK378 := n1_; have HB := n2_; clear n0_ n1_ n2_; (try clear hb); (try clear hb2); (try clear hk); (try clear hi)) | ((with_reducible refine gate_callee (f := 27) rfl ?_); refine goesL_ (some 35) rfl rfl Try.func27 (by kernel_rfl) rfl #[.string a0, .int .i64 a1, .int .i64 a2, .agg #[.bool t387, .int .i64 t388, .bool t389, .bool t390]] rfl (by (try simp only [List.map_toArray, List.map_cons, List.map_nil]); first | done | rfl | (simp only [List.length_drop, List.length_take]; rfl)) ?_; (with_reducible refine (impl_ReadTile.calls k a0 a1 a2 t387 t388 t389 t390 t391 t394 _ A10.out).mono ?_); rintro e w18 ⟨v392, rfl, ho0, hb⟩; refine ⟨_, rfl, ?_⟩; have GLT := Aside0.mk (show gb378 < w17.heap.size from blk_lt BK378.out); have n0_ := Aside0.mk (Kd.S_old (by (with_reducible repeat (first | apply Kd.S_alloc | apply Kd.S_drewN | apply Kd.S_drew)); exact HO385.out) hb); have n1_ := Aside0.mk (Kd.S_lower (Kd.S_mono (Kd.S_bound ho0) (fun k_ hk => (⟨trivial, hk.2.1⟩ : True ∧ w17.heap.size ≤ k_))) (below_size (by repeat (first | (with_reducible first | exact HB.out | apply below_alloc | apply pw_below_drewN | apply below_drew1 | refine below_set ?_ GE378.out) | exact HB.out)))); have n2_ := Aside0.mk (blk_below (g := gb378) (o := .cells #[.bool a3_0, .int .i64 a3_1, .bool a3_2, .bool a3_3] 44 (0, 0)) (by (with_reducible repeat (first | refine blk_drewN ?_ _ | refine blk_drew ?_ | refine blk_alloc ?_ _)); exact BK378.out) hb); have n3_ := Aside0.mk (below_step (by repeat (first | (with_reducible first | exact HB.out | apply below_alloc | apply pw_below_drewN | apply below_drew1 | refine below_set ?_ GE378.out) | exact HB.out)) hb); clear HO385; clear BK378; clear HB; have HO385 := n0_; have HO393 := n1_; have BK378 := n2_; have HB := n3_; clear n0_ n1_ n2_ n3_; (try clear hb); (try clear hb2); (try clear hk); (try clear hi); (try clear ho0)))
  (try simp only [Act.put, List.setIfInBounds_toArray, List.set_cons_zero, List.set_cons_succ])
  go_cut [46] (fun v46 wc => ∃ (kq : Nat) (x46_10 : Bool), v46 = .bool x46_10 ∧ Aside0 (laws_FnExactReadTile.j0 kq a0 a1 a2 t383 t386 t391 x46_10 a3_0 a3_1 a3_2 a3_3 = some r) ∧ Aside0 (kq ≤ k) ∧ Aside0 (Kd.S k63 63 wc w.heap.size (fun k_ => k_ < w17.heap.size) v384 t383) ∧ Aside0 (Kd.S k63 63 wc w.heap.size (fun k_ => w17.heap.size ≤ k_) v392 t391) ∧ Aside0 (wc.heap[gb378]? = some (.cells #[.bool a3_0, .int .i64 a3_1, .bool a3_2, .bool a3_3] 44 (0, 0))) ∧ Aside0 (Below w.heap.size w wc))
  case first =>
   have H := HC11.out
   clear HC11
   replace H := Option.bind_eq_some_iff.mp H
   obtain ⟨t395, A190, H⟩ := H
   replace H : (if t395 = true then (laws_FnExactReadTile.j0 k a0 a1 a2 t383 t386 t391 (t394 != t386) a3_0 a3_1 a3_2 a3_3) else (laws_FnExactReadTile.j0 k a0 a1 a2 t383 t386 t391 true a3_0 a3_1 a3_2 a3_3)) = some r := H
   have A19 := Aside0.mk A190
   clear A190
   by_cases c20 : t395 = true
   ·subst c20
    have H1 : (laws_FnExactReadTile.j0 k a0 a1 a2 t383 t386 t391 (t394 != t386) a3_0 a3_1 a3_2 a3_3) = some r := by rw [if_pos rfl] at H; exact H
    clear H
    have H := H1
    clear H1
    have H' := Aside0.mk H
    clear H
    obtain ⟨Ao21, co21, eo21⟩ := Kd.S_slice HO393.out
    subst eo21
    obtain ⟨Ao22, co22, eo22⟩ := Kd.S_slice HO385.out
    subst eo22
    go_wp2_with (first | ((with_reducible refine gate_callee (f := 25) rfl ?_); refine goesL_ (some 40) rfl rfl Try.func25 (by kernel_rfl) rfl #[.slice Ao21 t391.length co21, .slice Ao22 t383.length co22] rfl (by (try simp only [List.map_toArray, List.map_cons, List.map_nil]); first | done | rfl | (simp only [List.length_drop, List.length_take]; rfl)) ?_; (with_reducible refine (laws_eqSquareS.calls k _ _ t391 _ _ t383 true _ ?side1 ?side2 ?side3 ?side4 A19.out).mono ?_); (case side1 => repeat (first | exact (Kd.S_reads' HO393.out).2.2 | (with_reducible refine Kd.C_alloc ?_ _) | (with_reducible refine Kd.C_drewN ?_ _) | (with_reducible refine Kd.C_drew ?_))); (case side2 => exact (Kd.S_reads' HO393.out).2.1); (case side3 => repeat (first | exact (Kd.S_reads' HO385.out).2.2 | (with_reducible refine Kd.C_alloc ?_ _) | (with_reducible refine Kd.C_drewN ?_ _) | (with_reducible refine Kd.C_drew ?_))); (case side4 => exact (Kd.S_reads' HO385.out).2.1); rintro e w23 ⟨rfl, hb⟩; refine ⟨_, rfl, ?_⟩; have n0_ := Aside0.mk (Kd.S_below (by (with_reducible repeat (first | apply Kd.S_alloc | apply Kd.S_drewN | apply Kd.S_drew)); exact HO385.out) hb); have n1_ := Aside0.mk (Kd.S_below (by (with_reducible repeat (first | apply Kd.S_alloc | apply Kd.S_drewN | apply Kd.S_drew)); exact HO393.out) hb); have n2_ := Aside0.mk (blk_below (g := gb378) (o := .cells #[.bool a3_0, .int .i64 a3_1, .bool a3_2, .bool a3_3] 44 (0, 0)) (by (with_reducible repeat (first | refine blk_drewN ?_ _ | refine blk_drew ?_ | refine blk_alloc ?_ _)); exact BK378.out) hb); have n3_ := Aside0.mk (below_step (by repeat (first | (with_reducible first | exact HB.out | apply below_alloc | apply pw_below_drewN | apply below_drew1 | refine below_set ?_ GE378.out) | exact HB.out)) hb); clear HO385; clear HO393; clear BK378; clear HB; have HO385 := n0_; have HO393 := n1_; have BK378 := n2_; have HB := n3_; clear n0_ n1_ n2_ n3_; (try clear hb); (try clear hb2); (try clear hk); (try clear hi)))
    go_meet
    case rel => exact ⟨_, ((t394 != t386)), (by first | rfl | (simp; done) | (simp [*]; done)), H', ⟨by first | omega | exact Nat.le_refl _⟩, ⟨by (with_reducible repeat (first | apply Kd.S_alloc | apply Kd.S_drewN | apply Kd.S_drew)); exact Kd.S_mono HO385.out (fun _ hk => hk.2)⟩, ⟨by (with_reducible repeat (first | apply Kd.S_alloc | apply Kd.S_drewN | apply Kd.S_drew)); exact Kd.S_mono HO393.out (fun _ hk => hk.2)⟩, ⟨by (with_reducible repeat (first | refine blk_drewN ?_ _ | refine blk_drew ?_ | refine blk_alloc ?_ _)); exact BK378.out⟩, ⟨by repeat (first | (with_reducible first | exact HB.out | apply below_alloc | apply pw_below_drewN | apply below_drew1 | refine below_set ?_ GE378.out) | exact HB.out)⟩⟩
   ·replace c20 := Bool.eq_false_iff.mpr c20
    subst c20
    have H1 : (laws_FnExactReadTile.j0 k a0 a1 a2 t383 t386 t391 true a3_0 a3_1 a3_2 a3_3) = some r := by rw [if_neg (show ¬ (false = true) by decide)] at H; exact H
    clear H
    have H := H1
    clear H1
    have H' := Aside0.mk H
    clear H
    obtain ⟨Ao24, co24, eo24⟩ := Kd.S_slice HO393.out
    subst eo24
    obtain ⟨Ao25, co25, eo25⟩ := Kd.S_slice HO385.out
    subst eo25
    go_wp2_with (first | ((with_reducible refine gate_callee (f := 25) rfl ?_); refine goesL_ (some 40) rfl rfl Try.func25 (by kernel_rfl) rfl #[.slice Ao24 t391.length co24, .slice Ao25 t383.length co25] rfl (by (try simp only [List.map_toArray, List.map_cons, List.map_nil]); first | done | rfl | (simp only [List.length_drop, List.length_take]; rfl)) ?_; (with_reducible refine (laws_eqSquareS.calls k _ _ t391 _ _ t383 false _ ?side1 ?side2 ?side3 ?side4 A19.out).mono ?_); (case side1 => repeat (first | exact (Kd.S_reads' HO393.out).2.2 | (with_reducible refine Kd.C_alloc ?_ _) | (with_reducible refine Kd.C_drewN ?_ _) | (with_reducible refine Kd.C_drew ?_))); (case side2 => exact (Kd.S_reads' HO393.out).2.1); (case side3 => repeat (first | exact (Kd.S_reads' HO385.out).2.2 | (with_reducible refine Kd.C_alloc ?_ _) | (with_reducible refine Kd.C_drewN ?_ _) | (with_reducible refine Kd.C_drew ?_))); (case side4 => exact (Kd.S_reads' HO385.out).2.1); rintro e w26 ⟨rfl, hb⟩; refine ⟨_, rfl, ?_⟩; have n0_ := Aside0.mk (Kd.S_below (by (with_reducible repeat (first | apply Kd.S_alloc | apply Kd.S_drewN | apply Kd.S_drew)); exact HO385.out) hb); have n1_ := Aside0.mk (Kd.S_below (by (with_reducible repeat (first | apply Kd.S_alloc | apply Kd.S_drewN | apply Kd.S_drew)); exact HO393.out) hb); have n2_ := Aside0.mk (blk_below (g := gb378) (o := .cells #[.bool a3_0, .int .i64 a3_1, .bool a3_2, .bool a3_3] 44 (0, 0)) (by (with_reducible repeat (first | refine blk_drewN ?_ _ | refine blk_drew ?_ | refine blk_alloc ?_ _)); exact BK378.out) hb); have n3_ := Aside0.mk (below_step (by repeat (first | (with_reducible first | exact HB.out | apply below_alloc | apply pw_below_drewN | apply below_drew1 | refine below_set ?_ GE378.out) | exact HB.out)) hb); clear HO385; clear HO393; clear BK378; clear HB; have HO385 := n0_; have HO393 := n1_; have BK378 := n2_; have HB := n3_; clear n0_ n1_ n2_ n3_; (try clear hb); (try clear hb2); (try clear hk); (try clear hi)))
    go_meet
    case rel => exact ⟨_, (true), (by first | rfl | (simp; done) | (simp [*]; done)), H', ⟨by first | omega | exact Nat.le_refl _⟩, ⟨by (with_reducible repeat (first | apply Kd.S_alloc | apply Kd.S_drewN | apply Kd.S_drew)); exact Kd.S_mono HO385.out (fun _ hk => hk.2)⟩, ⟨by (with_reducible repeat (first | apply Kd.S_alloc | apply Kd.S_drewN | apply Kd.S_drew)); exact Kd.S_mono HO393.out (fun _ hk => hk.2)⟩, ⟨by (with_reducible repeat (first | refine blk_drewN ?_ _ | refine blk_drew ?_ | refine blk_alloc ?_ _)); exact BK378.out⟩, ⟨by repeat (first | (with_reducible first | exact HB.out | apply below_alloc | apply pw_below_drewN | apply below_drew1 | refine below_set ?_ GE378.out) | exact HB.out)⟩⟩
  case rest =>
   clear HC11
   try clear c2
   try clear p2
   try clear c5
   try clear c5b0
   try clear c5b1
   try clear c6
   try clear c20
   try clear c23
   try clear c25
   try clear c26
   try clear hcz13_0
   try clear hcz13_1
   try clear hcz13_2
   try clear hcz13_3
   try clear hcz16_0
   try clear hcz16_1
   try clear hcz16_2
   try clear hcz16_3
   try clear hfz13_0
   try clear hfz13_1
   try clear hfz13_2
   try clear hfz13_3
   try clear hfz16_0
   try clear hfz16_1
   try clear hfz16_2
   try clear hfz16_3
   obtain ⟨kq, x46_10, rfl, HA, HJ10, HO_9, HO_11, BK378, HB⟩ := hcut
   cases kq with
   | zero => exact absurd HA.out (by simp [laws_FnExactReadTile.j0])
   | succ kj10 =>
    have H := HA.out
    clear HA
    simp only [laws_FnExactReadTile.j0] at H
    by_cases c27 : x46_10 = true
    ·subst c27
     have H1 : (some false) = some r := by rw [if_pos rfl] at H; exact H
     clear H
     have H := H1
     clear H1
     obtain rfl := Option.some.inj H
     go_wp2
     go_ret
     exact ⟨by first | rfl | (simp [errW_none, errW_some] <;> rfl) | (simp [*, errW_none, errW_some] <;> rfl), by repeat (first | (with_reducible first | exact HB.out | apply below_alloc | apply pw_below_drewN | apply below_drew1 | refine below_set ?_ GE378.out) | exact HB.out)⟩
    ·replace c27 := Bool.eq_false_iff.mpr c27
     subst c27
     have H1 : ((laws_markSquareS.f kj10 t391 1).bind fun q396 => ((laws_heldSquareS.f kj10 q396.2 1).bind fun t397 => (if t397 < 0 then (some false) else (if t397 = q396.1 then ((laws_toCond.f a3_0 a3_1 a3_2 a3_3).bind fun bt398 => ((impl_ReadTile.f kj10 a0 a1 a2 bt398.1 bt398.2.1 bt398.2.2.1 bt398.2.2.2).bind fun bt402 => ((laws_eqSquareS.f kj10 bt402.1 t383).bind fun t406 => (if t406 = true then (laws_FnExactReadTile.j1 kj10 q396.2 q396.1 (bt402.2 != t386)) else (laws_FnExactReadTile.j1 kj10 q396.2 q396.1 true))))) else (some false))))) = some r := by rw [if_neg (show ¬ (false = true) by decide)] at H; exact H
     clear H
     have H := H1
     clear H1
     replace H := Option.bind_eq_some_iff.mp H
     obtain ⟨q396, A280, H⟩ := H
     replace H : ((laws_heldSquareS.f kj10 q396.2 1).bind fun t397 => (if t397 < 0 then (some false) else (if t397 = q396.1 then ((laws_toCond.f a3_0 a3_1 a3_2 a3_3).bind fun bt398 => ((impl_ReadTile.f kj10 a0 a1 a2 bt398.1 bt398.2.1 bt398.2.2.1 bt398.2.2.2).bind fun bt402 => ((laws_eqSquareS.f kj10 bt402.1 t383).bind fun t406 => (if t406 = true then (laws_FnExactReadTile.j1 kj10 q396.2 q396.1 (bt402.2 != t386)) else (laws_FnExactReadTile.j1 kj10 q396.2 q396.1 true))))) else (some false)))) = some r := H
     have A28 := Aside0.mk A280
     clear A280
     replace H := Option.bind_eq_some_iff.mp H
     obtain ⟨t397, A290, H⟩ := H
     replace H : (if t397 < 0 then (some false) else (if t397 = q396.1 then ((laws_toCond.f a3_0 a3_1 a3_2 a3_3).bind fun bt398 => ((impl_ReadTile.f kj10 a0 a1 a2 bt398.1 bt398.2.1 bt398.2.2.1 bt398.2.2.2).bind fun bt402 => ((laws_eqSquareS.f kj10 bt402.1 t383).bind fun t406 => (if t406 = true then (laws_FnExactReadTile.j1 kj10 q396.2 q396.1 (bt402.2 != t386)) else (laws_FnExactReadTile.j1 kj10 q396.2 q396.1 true))))) else (some false))) = some r := H
     have A29 := Aside0.mk A290
     clear A290
     by_cases c30 : t397 < 0
     ·rw [if_pos c30] at H
      have c30b0 : decide (t397 < 0) = true := decide_eq_true c30
      clear c30
      obtain rfl := Option.some.inj H
      go_wp2_with (first | ((with_reducible refine gate_callee (f := 28) rfl ?_); refine goesL_ (some 49) rfl rfl Try.func28 (by kernel_rfl) rfl #[v392, .int .i64 1] rfl (by (try simp only [List.map_toArray, List.map_cons, List.map_nil]); first | done | rfl) ?_; (with_reducible refine (laws_markSquareS.calls kj10 (fun k_ => w17.heap.size ≤ k_) v392 t391 1 q396.1 q396.2 w _ HB.out HO_11.out A28.out).mono ?_); rintro e wm0 ⟨rfl, hS_, hB_, hK_⟩; refine ⟨_, rfl, ?_⟩; have n0_ := Aside0.mk (Kd.S_step HO_9.out (fun k hk hl => hK_.2 k hl (fun h_ => absurd h_ (Nat.not_le.mpr hk)))); have n2_ := Aside0.mk ((hK_.2 gb378 (blk_lt BK378.out) (fun h_ => absurd h_ (Nat.not_le.mpr GLT.out))).trans BK378.out); clear HO_9 HO_11 BK378 HB; have HO_9 := n0_; have HO_11 := Aside0.mk hS_; have BK378 := n2_; have HB := Aside0.mk hB_; clear n0_ n2_ hS_ hB_ hK_; obtain ⟨Ao31, co31, eo31⟩ := Kd.S_slice HO_11.out; subst eo31) | ((with_reducible refine gate_callee (f := 29) rfl ?_); refine goesL_ (some 52) rfl rfl Try.func29 (by kernel_rfl) rfl #[.slice Ao31 q396.2.length co31, .int .i64 1] rfl (by (try simp only [List.map_toArray, List.map_cons, List.map_nil]); first | done | rfl | (simp only [List.length_drop, List.length_take]; rfl)) ?_; (with_reducible refine (laws_heldSquareS.calls kj10 _ _ q396.2 1 t397 _ ?side1 ?side2 A29.out).mono ?_); (case side1 => repeat (first | exact (Kd.S_reads' HO_11.out).2.2 | (with_reducible refine Kd.C_alloc ?_ _) | (with_reducible refine Kd.C_drewN ?_ _) | (with_reducible refine Kd.C_drew ?_))); (case side2 => exact (Kd.S_reads' HO_11.out).2.1); rintro e w' ⟨rfl, ⟨nd, rfl⟩⟩; refine ⟨_, rfl, ?_⟩))
      go_ret
      exact ⟨by first | rfl | (simp [errW_none, errW_some] <;> rfl) | (simp [*, errW_none, errW_some] <;> rfl), by repeat (first | (with_reducible first | exact HB.out | apply below_alloc | apply pw_below_drewN | apply below_drew1 | refine below_set ?_ GE378.out) | exact HB.out)⟩
     ·rw [if_neg c30] at H
      have c30b0 : decide (t397 < 0) = false := decide_eq_false c30
      clear c30
      by_cases c32 : t397 = q396.1
      ·rw [if_pos c32] at H
       have c32b0 : (t397 == q396.1) = true := beq_iff_eq.mpr c32
       have c32b1 : (t397 != q396.1) = false := bne_eq_false_iff_eq.mpr c32
       clear c32
       replace H := Option.bind_eq_some_iff.mp H
       obtain ⟨⟨t398, t399, t400, t401⟩, A330, H⟩ := H
       replace H : ((impl_ReadTile.f kj10 a0 a1 a2 t398 t399 t400 t401).bind fun bt402 => ((laws_eqSquareS.f kj10 bt402.1 t383).bind fun t406 => (if t406 = true then (laws_FnExactReadTile.j1 kj10 q396.2 q396.1 (bt402.2 != t386)) else (laws_FnExactReadTile.j1 kj10 q396.2 q396.1 true)))) = some r := H
       have A33 := Aside0.mk A330
       clear A330
       replace H := Option.bind_eq_some_iff.mp H
       obtain ⟨⟨t402, t405⟩, A340, H⟩ := H
       replace H : ((laws_eqSquareS.f kj10 t402 t383).bind fun t406 => (if t406 = true then (laws_FnExactReadTile.j1 kj10 q396.2 q396.1 (t405 != t386)) else (laws_FnExactReadTile.j1 kj10 q396.2 q396.1 true))) = some r := H
       have A34 := Aside0.mk A340
       clear A340
       have HC35 := Aside0.mk H
       clear H
       go_upto_region 16 with (first | ((with_reducible refine gate_callee (f := 28) rfl ?_); refine goesL_ (some 49) rfl rfl Try.func28 (by kernel_rfl) rfl #[v392, .int .i64 1] rfl (by (try simp only [List.map_toArray, List.map_cons, List.map_nil]); first | done | rfl) ?_; (with_reducible refine (laws_markSquareS.calls kj10 (fun k_ => w17.heap.size ≤ k_) v392 t391 1 q396.1 q396.2 w _ HB.out HO_11.out A28.out).mono ?_); rintro e wm0 ⟨rfl, hS_, hB_, hK_⟩; refine ⟨_, rfl, ?_⟩; have n0_ := Aside0.mk (Kd.S_step HO_9.out (fun k hk hl => hK_.2 k hl (fun h_ => absurd h_ (Nat.not_le.mpr hk)))); have n2_ := Aside0.mk ((hK_.2 gb378 (blk_lt BK378.out) (fun h_ => absurd h_ (Nat.not_le.mpr GLT.out))).trans BK378.out); clear HO_9 HO_11 BK378 HB; have HO_9 := n0_; have HO_11 := Aside0.mk hS_; have BK378 := n2_; have HB := Aside0.mk hB_; clear n0_ n2_ hS_ hB_ hK_; obtain ⟨Ao36, co36, eo36⟩ := Kd.S_slice HO_11.out; subst eo36) | ((with_reducible refine gate_callee (f := 29) rfl ?_); refine goesL_ (some 52) rfl rfl Try.func29 (by kernel_rfl) rfl #[.slice Ao36 q396.2.length co36, .int .i64 1] rfl (by (try simp only [List.map_toArray, List.map_cons, List.map_nil]); first | done | rfl | (simp only [List.length_drop, List.length_take]; rfl)) ?_; (with_reducible refine (laws_heldSquareS.calls kj10 _ _ q396.2 1 t397 _ ?side1 ?side2 A29.out).mono ?_); (case side1 => repeat (first | exact (Kd.S_reads' HO_11.out).2.2 | (with_reducible refine Kd.C_alloc ?_ _) | (with_reducible refine Kd.C_drewN ?_ _) | (with_reducible refine Kd.C_drew ?_))); (case side2 => exact (Kd.S_reads' HO_11.out).2.1); rintro e w' ⟨rfl, ⟨nd, rfl⟩⟩; refine ⟨_, rfl, ?_⟩; have hcz37_0 : wm0.cell? ⟨gb378, 0, none⟩ = some (.bool a3_0) := (blk_cell BK378.out 0).trans rfl; have hcz37_1 : wm0.cell? ⟨gb378, 1, none⟩ = some (.int .i64 a3_1) := (blk_cell BK378.out 1).trans rfl; have hcz37_2 : wm0.cell? ⟨gb378, 2, none⟩ = some (.bool a3_2) := (blk_cell BK378.out 2).trans rfl; have hcz37_3 : wm0.cell? ⟨gb378, 3, none⟩ = some (.bool a3_3) := (blk_cell BK378.out 3).trans rfl; have hfz37_0 := blk_frozen BK378.out 0; have hfz37_1 := blk_frozen BK378.out 1; have hfz37_2 := blk_frozen BK378.out 2; have hfz37_3 := blk_frozen BK378.out 3) | ((with_reducible refine gate_callee (f := 23) rfl ?_); refine goesL_ (some 63) rfl rfl Try.func23 (by kernel_rfl) rfl #[.agg #[.bool a3_0, .int .i64 a3_1, .bool a3_2, .bool a3_3]] rfl (by (try simp only [List.map_toArray, List.map_cons, List.map_nil]); first | done | rfl | (simp only [List.length_drop, List.length_take]; rfl)) ?_; (with_reducible refine (laws_toCond.calls a3_0 a3_1 a3_2 a3_3 t398 t399 t400 t401 _ A33.out).mono ?_); rintro e w38 ⟨rfl, hb⟩; refine ⟨_, rfl, ?_⟩; have n0_ := Aside0.mk (Kd.S_below (by (with_reducible repeat (first | apply Kd.S_alloc | apply Kd.S_drewN | apply Kd.S_drew)); exact HO_9.out) hb); have n1_ := Aside0.mk (Kd.S_below (by (with_reducible repeat (first | apply Kd.S_alloc | apply Kd.S_drewN | apply Kd.S_drew)); exact HO_11.out) hb); have n2_ := Aside0.mk (blk_below (g := gb378) (o := .cells #[.bool a3_0, .int .i64 a3_1, .bool a3_2, .bool a3_3] 44 (0, 0)) (by (with_reducible repeat (first | refine blk_drewN ?_ _ | refine blk_drew ?_ | refine blk_alloc ?_ _)); exact BK378.out) hb); have n3_ := Aside0.mk (below_step (by repeat (first | (with_reducible first | exact HB.out | apply below_alloc | apply pw_below_drewN | apply below_drew1 | refine below_set ?_ GE378.out) | exact HB.out)) hb); clear HO_9; clear HO_11; clear BK378; clear HB; have HO_9 := n0_; have HO_11 := n1_; have BK378 := n2_; have HB := n3_; clear n0_ n1_ n2_ n3_; (try clear hb); (try clear hb2); (try clear hk); (try clear hi)) | ((with_reducible refine gate_callee (f := 27) rfl ?_); refine goesL_ (some 64) rfl rfl Try.func27 (by kernel_rfl) rfl #[.string a0, .int .i64 a1, .int .i64 a2, .agg #[.bool t398, .int .i64 t399, .bool t400, .bool t401]] rfl (by (try simp only [List.map_toArray, List.map_cons, List.map_nil]); first | done | rfl | (simp only [List.length_drop, List.length_take]; rfl)) ?_; (with_reducible refine (impl_ReadTile.calls kj10 a0 a1 a2 t398 t399 t400 t401 t402 t405 _ A34.out).mono ?_); rintro e w39 ⟨v403, rfl, ho0, hb⟩; refine ⟨_, rfl, ?_⟩; have n0_ := Aside0.mk (Kd.S_elder' (by (with_reducible repeat (first | apply Kd.S_alloc | apply Kd.S_drewN | apply Kd.S_drew)); exact HO_9.out) (Kd.S_base ho0) hb); have n1_ := Aside0.mk (Kd.S_elder' (by (with_reducible repeat (first | apply Kd.S_alloc | apply Kd.S_drewN | apply Kd.S_drew)); exact HO_11.out) (Kd.S_base ho0) hb); have n2_ := Aside0.mk (Kd.S_lower (Kd.S_new' (Kd.S_new' ho0 (Kd.S_lt (by (with_reducible repeat (first | apply Kd.S_alloc | apply Kd.S_drewN | apply Kd.S_drew)); exact HO_9.out))) (Kd.S_lt (by (with_reducible repeat (first | apply Kd.S_alloc | apply Kd.S_drewN | apply Kd.S_drew)); exact HO_11.out))) (below_size (by repeat (first | (with_reducible first | exact HB.out | apply below_alloc | apply pw_below_drewN | apply below_drew1 | refine below_set ?_ GE378.out) | exact HB.out)))); have n3_ := Aside0.mk (blk_below (g := gb378) (o := .cells #[.bool a3_0, .int .i64 a3_1, .bool a3_2, .bool a3_3] 44 (0, 0)) (by (with_reducible repeat (first | refine blk_drewN ?_ _ | refine blk_drew ?_ | refine blk_alloc ?_ _)); exact BK378.out) hb); have n4_ := Aside0.mk (below_step (by repeat (first | (with_reducible first | exact HB.out | apply below_alloc | apply pw_below_drewN | apply below_drew1 | refine below_set ?_ GE378.out) | exact HB.out)) hb); clear HO_9; clear HO_11; clear BK378; clear HB; have HO_9 := n0_; have HO_11 := n1_; have HO404 := n2_; have BK378 := n3_; have HB := n4_; clear n0_ n1_ n2_ n3_ n4_; (try clear hb); (try clear hb2); (try clear hk); (try clear hi); (try clear ho0)))
       (try simp only [Act.put, List.setIfInBounds_toArray, List.set_cons_zero, List.set_cons_succ])
       go_cut [75] (fun v75 wc => ∃ (kq : Nat) (x75_34 : Bool), v75 = .bool x75_34 ∧ Aside0 (laws_FnExactReadTile.j1 kq q396.2 q396.1 x75_34 = some r) ∧ Aside0 (kq ≤ kj10) ∧ Aside0 (Kd.S k63 63 wc w.heap.size (fun _ => True) (.slice Ao36 q396.2.length co36) q396.2) ∧ Aside0 (wc.heap[gb378]? = some (.cells #[.bool a3_0, .int .i64 a3_1, .bool a3_2, .bool a3_3] 44 (0, 0))) ∧ Aside0 (Below w.heap.size w wc))
       case first =>
        have H := HC35.out
        clear HC35
        replace H := Option.bind_eq_some_iff.mp H
        obtain ⟨t406, A400, H⟩ := H
        replace H : (if t406 = true then (laws_FnExactReadTile.j1 kj10 q396.2 q396.1 (t405 != t386)) else (laws_FnExactReadTile.j1 kj10 q396.2 q396.1 true)) = some r := H
        have A40 := Aside0.mk A400
        clear A400
        by_cases c41 : t406 = true
        ·subst c41
         have H1 : (laws_FnExactReadTile.j1 kj10 q396.2 q396.1 (t405 != t386)) = some r := by rw [if_pos rfl] at H; exact H
         clear H
         have H := H1
         clear H1
         have H' := Aside0.mk H
         clear H
         obtain ⟨Ao42, co42, eo42⟩ := Kd.S_slice HO404.out
         subst eo42
         obtain ⟨Ao43, co43, eo43⟩ := Kd.S_slice HO_9.out
         subst eo43
         go_wp2_with (first | ((with_reducible refine gate_callee (f := 25) rfl ?_); refine goesL_ (some 69) rfl rfl Try.func25 (by kernel_rfl) rfl #[.slice Ao42 t402.length co42, .slice Ao43 t383.length co43] rfl (by (try simp only [List.map_toArray, List.map_cons, List.map_nil]); first | done | rfl | (simp only [List.length_drop, List.length_take]; rfl)) ?_; (with_reducible refine (laws_eqSquareS.calls kj10 _ _ t402 _ _ t383 true _ ?side1 ?side2 ?side3 ?side4 A40.out).mono ?_); (case side1 => repeat (first | exact (Kd.S_reads' HO404.out).2.2 | (with_reducible refine Kd.C_alloc ?_ _) | (with_reducible refine Kd.C_drewN ?_ _) | (with_reducible refine Kd.C_drew ?_))); (case side2 => exact (Kd.S_reads' HO404.out).2.1); (case side3 => repeat (first | exact (Kd.S_reads' HO_9.out).2.2 | (with_reducible refine Kd.C_alloc ?_ _) | (with_reducible refine Kd.C_drewN ?_ _) | (with_reducible refine Kd.C_drew ?_))); (case side4 => exact (Kd.S_reads' HO_9.out).2.1); rintro e w44 ⟨rfl, hb⟩; refine ⟨_, rfl, ?_⟩; have n0_ := Aside0.mk (Kd.S_below (by (with_reducible repeat (first | apply Kd.S_alloc | apply Kd.S_drewN | apply Kd.S_drew)); exact HO_9.out) hb); have n1_ := Aside0.mk (Kd.S_below (by (with_reducible repeat (first | apply Kd.S_alloc | apply Kd.S_drewN | apply Kd.S_drew)); exact HO_11.out) hb); have n2_ := Aside0.mk (Kd.S_below (by (with_reducible repeat (first | apply Kd.S_alloc | apply Kd.S_drewN | apply Kd.S_drew)); exact HO404.out) hb); have n3_ := Aside0.mk (blk_below (g := gb378) (o := .cells #[.bool a3_0, .int .i64 a3_1, .bool a3_2, .bool a3_3] 44 (0, 0)) (by (with_reducible repeat (first | refine blk_drewN ?_ _ | refine blk_drew ?_ | refine blk_alloc ?_ _)); exact BK378.out) hb); have n4_ := Aside0.mk (below_step (by repeat (first | (with_reducible first | exact HB.out | apply below_alloc | apply pw_below_drewN | apply below_drew1 | refine below_set ?_ GE378.out) | exact HB.out)) hb); clear HO_9; clear HO_11; clear HO404; clear BK378; clear HB; have HO_9 := n0_; have HO_11 := n1_; have HO404 := n2_; have BK378 := n3_; have HB := n4_; clear n0_ n1_ n2_ n3_ n4_; (try clear hb); (try clear hb2); (try clear hk); (try clear hi)))
         go_meet
         case rel => exact ⟨_, ((t405 != t386)), (by first | rfl | (simp; done) | (simp [*]; done)), H', ⟨by have := HJ10.out; first | omega | exact Nat.le_refl _⟩, ⟨by (with_reducible repeat (first | apply Kd.S_alloc | apply Kd.S_drewN | apply Kd.S_drew)); exact Kd.S_mono HO_11.out (fun _ hk => trivial)⟩, ⟨by (with_reducible repeat (first | refine blk_drewN ?_ _ | refine blk_drew ?_ | refine blk_alloc ?_ _)); exact BK378.out⟩, ⟨by repeat (first | (with_reducible first | exact HB.out | apply below_alloc | apply pw_below_drewN | apply below_drew1 | refine below_set ?_ GE378.out) | exact HB.out)⟩⟩
        ·replace c41 := Bool.eq_false_iff.mpr c41
         subst c41
         have H1 : (laws_FnExactReadTile.j1 kj10 q396.2 q396.1 true) = some r := by rw [if_neg (show ¬ (false = true) by decide)] at H; exact H
         clear H
         have H := H1
         clear H1
         have H' := Aside0.mk H
         clear H
         obtain ⟨Ao45, co45, eo45⟩ := Kd.S_slice HO404.out
         subst eo45
         obtain ⟨Ao46, co46, eo46⟩ := Kd.S_slice HO_9.out
         subst eo46
         go_wp2_with (first | ((with_reducible refine gate_callee (f := 25) rfl ?_); refine goesL_ (some 69) rfl rfl Try.func25 (by kernel_rfl) rfl #[.slice Ao45 t402.length co45, .slice Ao46 t383.length co46] rfl (by (try simp only [List.map_toArray, List.map_cons, List.map_nil]); first | done | rfl | (simp only [List.length_drop, List.length_take]; rfl)) ?_; (with_reducible refine (laws_eqSquareS.calls kj10 _ _ t402 _ _ t383 false _ ?side1 ?side2 ?side3 ?side4 A40.out).mono ?_); (case side1 => repeat (first | exact (Kd.S_reads' HO404.out).2.2 | (with_reducible refine Kd.C_alloc ?_ _) | (with_reducible refine Kd.C_drewN ?_ _) | (with_reducible refine Kd.C_drew ?_))); (case side2 => exact (Kd.S_reads' HO404.out).2.1); (case side3 => repeat (first | exact (Kd.S_reads' HO_9.out).2.2 | (with_reducible refine Kd.C_alloc ?_ _) | (with_reducible refine Kd.C_drewN ?_ _) | (with_reducible refine Kd.C_drew ?_))); (case side4 => exact (Kd.S_reads' HO_9.out).2.1); rintro e w47 ⟨rfl, hb⟩; refine ⟨_, rfl, ?_⟩; have n0_ := Aside0.mk (Kd.S_below (by (with_reducible repeat (first | apply Kd.S_alloc | apply Kd.S_drewN | apply Kd.S_drew)); exact HO_9.out) hb); have n1_ := Aside0.mk (Kd.S_below (by (with_reducible repeat (first | apply Kd.S_alloc | apply Kd.S_drewN | apply Kd.S_drew)); exact HO_11.out) hb); have n2_ := Aside0.mk (Kd.S_below (by (with_reducible repeat (first | apply Kd.S_alloc | apply Kd.S_drewN | apply Kd.S_drew)); exact HO404.out) hb); have n3_ := Aside0.mk (blk_below (g := gb378) (o := .cells #[.bool a3_0, .int .i64 a3_1, .bool a3_2, .bool a3_3] 44 (0, 0)) (by (with_reducible repeat (first | refine blk_drewN ?_ _ | refine blk_drew ?_ | refine blk_alloc ?_ _)); exact BK378.out) hb); have n4_ := Aside0.mk (below_step (by repeat (first | (with_reducible first | exact HB.out | apply below_alloc | apply pw_below_drewN | apply below_drew1 | refine below_set ?_ GE378.out) | exact HB.out)) hb); clear HO_9; clear HO_11; clear HO404; clear BK378; clear HB; have HO_9 := n0_; have HO_11 := n1_; have HO404 := n2_; have BK378 := n3_; have HB := n4_; clear n0_ n1_ n2_ n3_ n4_; (try clear hb); (try clear hb2); (try clear hk); (try clear hi)))
         go_meet
         case rel => exact ⟨_, (true), (by first | rfl | (simp; done) | (simp [*]; done)), H', ⟨by have := HJ10.out; first | omega | exact Nat.le_refl _⟩, ⟨by (with_reducible repeat (first | apply Kd.S_alloc | apply Kd.S_drewN | apply Kd.S_drew)); exact Kd.S_mono HO_11.out (fun _ hk => trivial)⟩, ⟨by (with_reducible repeat (first | refine blk_drewN ?_ _ | refine blk_drew ?_ | refine blk_alloc ?_ _)); exact BK378.out⟩, ⟨by repeat (first | (with_reducible first | exact HB.out | apply below_alloc | apply pw_below_drewN | apply below_drew1 | refine below_set ?_ GE378.out) | exact HB.out)⟩⟩
       case rest =>
        clear HC35
        try clear c2
        try clear p2
        try clear c3
        try clear c4
        try clear c5
        try clear c5b0
        try clear c5b1
        try clear c6
        try clear c20
        try clear c23
        try clear c25
        try clear c26
        try clear c27
        try clear c29
        try clear c30
        try clear c30b0
        try clear c32
        try clear c32b0
        try clear c32b1
        try clear c41
        try clear hcz13_0
        try clear hcz13_1
        try clear hcz13_2
        try clear hcz13_3
        try clear hcz16_0
        try clear hcz16_1
        try clear hcz16_2
        try clear hcz16_3
        try clear hcz37_0
        try clear hcz37_1
        try clear hcz37_2
        try clear hcz37_3
        try clear hfz13_0
        try clear hfz13_1
        try clear hfz13_2
        try clear hfz13_3
        try clear hfz16_0
        try clear hfz16_1
        try clear hfz16_2
        try clear hfz16_3
        try clear hfz37_0
        try clear hfz37_1
        try clear hfz37_2
        try clear hfz37_3
        try clear p2
        obtain ⟨kq, x75_34, rfl, HA, HJ34, HO_11, BK378, HB⟩ := hcut
        cases kq with
        | zero => exact absurd HA.out (by simp [laws_FnExactReadTile.j1])
        | succ kj34 =>
         have H := HA.out
         clear HA
         simp only [laws_FnExactReadTile.j1] at H
         by_cases c48 : x75_34 = true
         ·subst c48
          have H1 : (some false) = some r := by rw [if_pos rfl] at H; exact H
          clear H
          have H := H1
          clear H1
          obtain rfl := Option.some.inj H
          go_wp2
          go_ret
          exact ⟨by first | rfl | (simp [errW_none, errW_some] <;> rfl) | (simp [*, errW_none, errW_some] <;> rfl), by repeat (first | (with_reducible first | exact HB.out | apply below_alloc | apply pw_below_drewN | apply below_drew1 | refine below_set ?_ GE378.out) | exact HB.out)⟩
         ·replace c48 := Bool.eq_false_iff.mpr c48
          subst c48
          have H1 : ((laws_heldSquareS.f kj34 q396.2 1).bind fun t407 => (if t407 < 0 then (some false) else (if t407 = q396.1 then (some true) else (some false)))) = some r := by rw [if_neg (show ¬ (false = true) by decide)] at H; exact H
          clear H
          have H := H1
          clear H1
          replace H := Option.bind_eq_some_iff.mp H
          obtain ⟨t407, A490, H⟩ := H
          replace H : (if t407 < 0 then (some false) else (if t407 = q396.1 then (some true) else (some false))) = some r := H
          have A49 := Aside0.mk A490
          clear A490
          by_cases c50 : t407 < 0
          ·rw [if_pos c50] at H
           have c50b0 : decide (t407 < 0) = true := decide_eq_true c50
           clear c50
           obtain rfl := Option.some.inj H
           go_wp2_with (first | ((with_reducible refine gate_callee (f := 29) rfl ?_); refine goesL_ (some 78) rfl rfl Try.func29 (by kernel_rfl) rfl #[.slice Ao36 q396.2.length co36, .int .i64 1] rfl (by (try simp only [List.map_toArray, List.map_cons, List.map_nil]); first | done | rfl | (simp only [List.length_drop, List.length_take]; rfl)) ?_; (with_reducible refine (laws_heldSquareS.calls kj34 _ _ q396.2 1 t407 _ ?side1 ?side2 A49.out).mono ?_); (case side1 => repeat (first | exact (Kd.S_reads' HO_11.out).2.2 | (with_reducible refine Kd.C_alloc ?_ _) | (with_reducible refine Kd.C_drewN ?_ _) | (with_reducible refine Kd.C_drew ?_))); (case side2 => exact (Kd.S_reads' HO_11.out).2.1); rintro e w' ⟨rfl, ⟨nd, rfl⟩⟩; refine ⟨_, rfl, ?_⟩))
           go_ret
           exact ⟨by first | rfl | (simp [errW_none, errW_some] <;> rfl) | (simp [*, errW_none, errW_some] <;> rfl), by repeat (first | (with_reducible first | exact HB.out | apply below_alloc | apply pw_below_drewN | apply below_drew1 | refine below_set ?_ GE378.out) | exact HB.out)⟩
          ·rw [if_neg c50] at H
           have c50b0 : decide (t407 < 0) = false := decide_eq_false c50
           clear c50
           by_cases c51 : t407 = q396.1
           ·rw [if_pos c51] at H
            have c51b0 : (t407 == q396.1) = true := beq_iff_eq.mpr c51
            have c51b1 : (t407 != q396.1) = false := bne_eq_false_iff_eq.mpr c51
            clear c51
            obtain rfl := Option.some.inj H
            go_wp2_with (first | ((with_reducible refine gate_callee (f := 29) rfl ?_); refine goesL_ (some 78) rfl rfl Try.func29 (by kernel_rfl) rfl #[.slice Ao36 q396.2.length co36, .int .i64 1] rfl (by (try simp only [List.map_toArray, List.map_cons, List.map_nil]); first | done | rfl | (simp only [List.length_drop, List.length_take]; rfl)) ?_; (with_reducible refine (laws_heldSquareS.calls kj34 _ _ q396.2 1 t407 _ ?side1 ?side2 A49.out).mono ?_); (case side1 => repeat (first | exact (Kd.S_reads' HO_11.out).2.2 | (with_reducible refine Kd.C_alloc ?_ _) | (with_reducible refine Kd.C_drewN ?_ _) | (with_reducible refine Kd.C_drew ?_))); (case side2 => exact (Kd.S_reads' HO_11.out).2.1); rintro e w' ⟨rfl, ⟨nd, rfl⟩⟩; refine ⟨_, rfl, ?_⟩))
            go_ret
            exact ⟨by first | rfl | (simp [errW_none, errW_some] <;> rfl) | (simp [*, errW_none, errW_some] <;> rfl), by repeat (first | (with_reducible first | exact HB.out | apply below_alloc | apply pw_below_drewN | apply below_drew1 | refine below_set ?_ GE378.out) | exact HB.out)⟩
           ·rw [if_neg c51] at H
            have c51b0 : (t407 == q396.1) = false := beq_eq_false_iff_ne.mpr c51
            have c51b1 : (t407 != q396.1) = true := bne_iff_ne.mpr c51
            obtain rfl := Option.some.inj H
            go_wp2_with (first | ((with_reducible refine gate_callee (f := 29) rfl ?_); refine goesL_ (some 78) rfl rfl Try.func29 (by kernel_rfl) rfl #[.slice Ao36 q396.2.length co36, .int .i64 1] rfl (by (try simp only [List.map_toArray, List.map_cons, List.map_nil]); first | done | rfl | (simp only [List.length_drop, List.length_take]; rfl)) ?_; (with_reducible refine (laws_heldSquareS.calls kj34 _ _ q396.2 1 t407 _ ?side1 ?side2 A49.out).mono ?_); (case side1 => repeat (first | exact (Kd.S_reads' HO_11.out).2.2 | (with_reducible refine Kd.C_alloc ?_ _) | (with_reducible refine Kd.C_drewN ?_ _) | (with_reducible refine Kd.C_drew ?_))); (case side2 => exact (Kd.S_reads' HO_11.out).2.1); rintro e w' ⟨rfl, ⟨nd, rfl⟩⟩; refine ⟨_, rfl, ?_⟩))
            go_ret
            exact ⟨by first | rfl | (simp [errW_none, errW_some] <;> rfl) | (simp [*, errW_none, errW_some] <;> rfl), by repeat (first | (with_reducible first | exact HB.out | apply below_alloc | apply pw_below_drewN | apply below_drew1 | refine below_set ?_ GE378.out) | exact HB.out)⟩
      ·rw [if_neg c32] at H
       have c32b0 : (t397 == q396.1) = false := beq_eq_false_iff_ne.mpr c32
       have c32b1 : (t397 != q396.1) = true := bne_iff_ne.mpr c32
       obtain rfl := Option.some.inj H
       go_wp2_with (first | ((with_reducible refine gate_callee (f := 28) rfl ?_); refine goesL_ (some 49) rfl rfl Try.func28 (by kernel_rfl) rfl #[v392, .int .i64 1] rfl (by (try simp only [List.map_toArray, List.map_cons, List.map_nil]); first | done | rfl) ?_; (with_reducible refine (laws_markSquareS.calls kj10 (fun k_ => w17.heap.size ≤ k_) v392 t391 1 q396.1 q396.2 w _ HB.out HO_11.out A28.out).mono ?_); rintro e wm0 ⟨rfl, hS_, hB_, hK_⟩; refine ⟨_, rfl, ?_⟩; have n0_ := Aside0.mk (Kd.S_step HO_9.out (fun k hk hl => hK_.2 k hl (fun h_ => absurd h_ (Nat.not_le.mpr hk)))); have n2_ := Aside0.mk ((hK_.2 gb378 (blk_lt BK378.out) (fun h_ => absurd h_ (Nat.not_le.mpr GLT.out))).trans BK378.out); clear HO_9 HO_11 BK378 HB; have HO_9 := n0_; have HO_11 := Aside0.mk hS_; have BK378 := n2_; have HB := Aside0.mk hB_; clear n0_ n2_ hS_ hB_ hK_; obtain ⟨Ao52, co52, eo52⟩ := Kd.S_slice HO_11.out; subst eo52) | ((with_reducible refine gate_callee (f := 29) rfl ?_); refine goesL_ (some 52) rfl rfl Try.func29 (by kernel_rfl) rfl #[.slice Ao52 q396.2.length co52, .int .i64 1] rfl (by (try simp only [List.map_toArray, List.map_cons, List.map_nil]); first | done | rfl | (simp only [List.length_drop, List.length_take]; rfl)) ?_; (with_reducible refine (laws_heldSquareS.calls kj10 _ _ q396.2 1 t397 _ ?side1 ?side2 A29.out).mono ?_); (case side1 => repeat (first | exact (Kd.S_reads' HO_11.out).2.2 | (with_reducible refine Kd.C_alloc ?_ _) | (with_reducible refine Kd.C_drewN ?_ _) | (with_reducible refine Kd.C_drew ?_))); (case side2 => exact (Kd.S_reads' HO_11.out).2.1); rintro e w' ⟨rfl, ⟨nd, rfl⟩⟩; refine ⟨_, rfl, ?_⟩))
       go_ret
       exact ⟨by first | rfl | (simp [errW_none, errW_some] <;> rfl) | (simp [*, errW_none, errW_some] <;> rfl), by repeat (first | (with_reducible first | exact HB.out | apply below_alloc | apply pw_below_drewN | apply below_drew1 | refine below_set ?_ GE378.out) | exact HB.out)⟩

/-- The pure statement of laws_FnExactReadTile. -/
def laws_FnExactReadTile.Pure : Prop := ∀ (a0 : ByteArray) (a1 : Int) (a2 : Int) (a3_0 : Bool) (a3_1 : Int) (a3_2 : Bool) (a3_3 : Bool), a0.size ≤ 140737488351232 → (Lit.int .i64 a1).wf = true → (Lit.int .i64 a2).wf = true → (Lit.int .i64 a3_1).wf = true → ∃ k, laws_FnExactReadTile.f k a0 a1 a2 a3_0 a3_1 a3_2 a3_3 = some true
theorem laws_FnExactReadTile.walk (P : laws_FnExactReadTile.Pure) (a0 : ByteArray) (a1 : Int) (a2 : Int) (a3_0 : Bool) (a3_1 : Int) (a3_2 : Bool) (a3_3 : Bool) (w : World) (w0 : a0.size ≤ 140737488351232) (w1 : (Lit.int .i64 a1).wf = true) (w2 : (Lit.int .i64 a2).wf = true) (w3_1 : (Lit.int .i64 a3_1).wf = true) :
  Calls Try.prog 6 #[.string a0, .int .i64 a1, .int .i64 a2, .agg #[.bool a3_0, .int .i64 a3_1, .bool a3_2, .bool a3_3]] w fun e w' => e = .returned (.bool true) ∧ Below w.heap.size w w' := by
 obtain ⟨k, h⟩ := P a0 a1 a2 a3_0 a3_1 a3_2 a3_3 w0 w1 w2 w3_1
 refine (laws_FnExactReadTile.calls k a0 a1 a2 a3_0 a3_1 a3_2 a3_3 true w h).mono ?_
 rintro e w' ⟨rfl, hd⟩
 exact ⟨rfl, hd⟩

end Go.Proofs.Ytnaccgommclhaaa.QFnExactReadTile
