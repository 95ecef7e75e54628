/- What the law reaches, as plain functions, each with the proof that its call comes to its answer: written by a program for this claim. -/
import Derived.Test.YtlmlkoalicjlhaaQFnLevelRowsx0
import Derived.Test.YtlmlkoalicjlhaaQFnLevelRowsx1
import Derived.Test.YtlmlkoalicjlhaaQFnLevelRowsx6
import Derived.Test.YtlmlkoalicjlhaaQFnLevelRowsx8
import Derived.Test.YtlmlkoalicjlhaaQFnLevelRowsx9
import Derived.Test.YtlmlkoalicjlhaaQFnLevelRowsx10
import Derived.Test.YtlmlkoalicjlhaaQFnLevelRowsx13
namespace Go.Proofs.Ytlmlkoalicjlhaa.QFnLevelRows
open Go.RowKit Go.Proofs.YtlmlkoalicjlhaaW.PrintWords Go.Proofs.YtlmlkoalicjlhaaW.PrintLast Go.Proofs.YtlmlkoalicjlhaaW.PrintMore Go.Proofs.YtlmlkoalicjlhaaV
attribute [local go_sem] max2_int min2_int max_two min_two max_three min_three max_four min_four   -- for this text's walks alone
set_option linter.unusedVariables false
set_option linter.unusedSimpArgs false

abbrev Y : Bool := true
abbrev Z : Bool := false
/-! ### laws_FnLevelRows: function 14 -/
def laws_FnLevelRows.f (k : Nat) (l0 : List Int) : Option (Bool) := (laws_big.f l0).bind fun t445 => (if t445 = true then (some true) else ((spec_DrawLevels.f k l0 64).bind fun t446 => ((spec_DrawCond.f k l0).bind fun bt449 => ((spec_DrawRow.f k l0).bind fun t454 => ((some (([] : List Int) : List Int)).bind fun y455 => (if y455.length + t446.length < 17592186044416 then ((impl_LevelsRow.f k (y455 ++ t446) bt449.1 bt449.2.1 bt449.2.2.1 bt449.2.2.2).bind fun bt461 => (if t454.size + bt461.1.size ≤ 9223372036854775807 then (if (t454 ++ bt461.1).size + 1 ≤ 9223372036854775807 then ((impl_ReadLevels.f k ((t454 ++ bt461.1) ++ (⟨#[48]⟩ : ByteArray)) (t454.size : Int) bt449.1 bt449.2.1 bt449.2.2.1 bt449.2.2.2).bind fun bt463 => ((some (([] : List Int) : List Int)).bind fun y468 => (if y468.length + bt463.1.length < 17592186044416 then ((impl_LevelsBack.f k (y468 ++ bt463.1) bt449.1 bt449.2.1 bt449.2.2.1 bt449.2.2.2).bind fun bt474 => (if bt461.2 = true then (if bt463.2.2 = true then (if bt474.2 = true then ((laws_sameInts.f k bt463.1 t446).bind fun t478 => (if t478 = true then (if bt463.2.1 = (wrap64 ((t454.size : Int) + (bt461.1.size : Int))) then (if (bt474.1.length : Int) = 64 then ((impl_CondOk.f bt449.1 bt449.2.1 bt449.2.2.1 bt449.2.2.2).bind fun t479 => (some t479)) else (some false)) else (some false)) else (some false))) else (some false)) else (some false)) else (some false))) else (none)))) else (none)) else (none))) else (none)))))))
theorem laws_FnLevelRows.mono : ∀ a0 k, LeO (laws_FnLevelRows.f k a0) (laws_FnLevelRows.f (k + 1) a0) := by
 intro a0 k
 unfold laws_FnLevelRows.f
 repeat' first
   | (with_reducible exact impl_LevelsBack.mono _ _ _ _ _ _)
   | (with_reducible exact impl_LevelsRow.mono _ _ _ _ _ _)
   | (with_reducible exact impl_ReadLevels.mono _ _ _ _ _ _ _)
   | (with_reducible exact laws_sameInts.mono _ _ _)
   | (with_reducible exact spec_DrawCond.mono _ _)
   | (with_reducible exact spec_DrawLevels.mono _ _ _)
   | (with_reducible exact spec_DrawRow.mono _ _)
   | (with_reducible exact LeO.refl _)
   | (with_reducible exact LeO.none _)
   | (with_reducible refine LeO.ite ?_ ?_)
   | (with_reducible refine LeO.bind ?_ (fun _ => ?_))
   | exact impl_LevelsBack.mono _ _ _ _ _ _
   | exact impl_LevelsRow.mono _ _ _ _ _ _
   | exact impl_ReadLevels.mono _ _ _ _ _ _ _
   | exact laws_sameInts.mono _ _ _
   | exact spec_DrawCond.mono _ _
   | exact spec_DrawLevels.mono _ _ _
   | exact spec_DrawRow.mono _ _
   | exact LeO.none _
   | refine LeO.ite ?_ ?_
   | refine LeO.bind ?_ (fun _ => ?_)
def laws_FnLevelRows.T6 : Bool × List (List Nat × List Nat) := (true, [([], []), ([], []), ([0, 1], [0, 1]), ([], []), ([2, 3, 2], [2, 3]), ([4], [4]), ([5], [5]), ([5], [5]), ([6, 4, 0, 1, 2, 3, 4, 5, 6], [6]), ([7, 8, 0, 1, 2, 3, 4, 5, 6, 7, 8], [7])])
def laws_FnLevelRows.B6 : List Nat := [0, 0, 3, 0, 15, 31, 63, 63, 127, 511]
theorem laws_FnLevelRows.tab6 : rtab .any (opsOf Try.f14 6) = laws_FnLevelRows.T6 := by kernel_rfl
theorem laws_FnLevelRows.bits6 : waitsOk laws_FnLevelRows.T6.2 laws_FnLevelRows.B6 = true := by kernel_rfl
def laws_FnLevelRows.T8 : Bool × List (List Nat × List Nat) := (true, [([], []), ([], []), ([0, 1], [0, 1]), ([], []), ([2, 3, 2], [2, 3]), ([4], [4]), ([5], [5]), ([5], [5]), ([6, 4, 0, 1, 2, 3, 4, 5, 6], [6]), ([7, 8, 0, 1, 2, 3, 4, 5, 6, 7, 8], [7])])
def laws_FnLevelRows.B8 : List Nat := [0, 0, 3, 0, 15, 31, 63, 63, 127, 511]
theorem laws_FnLevelRows.tab8 : rtab .any (opsOf Try.f14 8) = laws_FnLevelRows.T8 := by kernel_rfl
theorem laws_FnLevelRows.bits8 : waitsOk laws_FnLevelRows.T8.2 laws_FnLevelRows.B8 = true := by kernel_rfl
set_option maxHeartbeats 8000000 in
set_option maxRecDepth 100000 in
theorem laws_FnLevelRows.calls (k : Nat) (A0 : Option Addr) (c0 : Nat) (l0 : List Int) (w : World) (hr0 : Kd.C (Kd.int .u8) w A0 l0.length l0) (hc0 : l0.length ≤ c0) (h : laws_FnLevelRows.f k l0 = some true) :
  Calls Try.prog 14 #[.slice A0 l0.length c0] w fun e w' => e = .returned (.bool true) ∧ Below w.heap.size w w' := by
 have hu40 := Try.underlying40
 have HR0 := Aside0.mk hr0
 have HC0 := Aside0.mk hc0
 clear hr0 hc0
 have HB := Aside0.mk (Below.refl w.heap.size w)
 have H : ((laws_big.f l0).bind fun t445 => (if t445 = true then (some true) else ((spec_DrawLevels.f k l0 64).bind fun t446 => ((spec_DrawCond.f k l0).bind fun bt449 => ((spec_DrawRow.f k l0).bind fun t454 => ((some (([] : List Int) : List Int)).bind fun y455 => (if y455.length + t446.length < 17592186044416 then ((impl_LevelsRow.f k (y455 ++ t446) bt449.1 bt449.2.1 bt449.2.2.1 bt449.2.2.2).bind fun bt461 => (if t454.size + bt461.1.size ≤ 9223372036854775807 then (if (t454 ++ bt461.1).size + 1 ≤ 9223372036854775807 then ((impl_ReadLevels.f k ((t454 ++ bt461.1) ++ (⟨#[48]⟩ : ByteArray)) (t454.size : Int) bt449.1 bt449.2.1 bt449.2.2.1 bt449.2.2.2).bind fun bt463 => ((some (([] : List Int) : List Int)).bind fun y468 => (if y468.length + bt463.1.length < 17592186044416 then ((impl_LevelsBack.f k (y468 ++ bt463.1) bt449.1 bt449.2.1 bt449.2.2.1 bt449.2.2.2).bind fun bt474 => (if bt461.2 = true then (if bt463.2.2 = true then (if bt474.2 = true then ((laws_sameInts.f k bt463.1 t446).bind fun t478 => (if t478 = true then (if bt463.2.1 = (wrap64 ((t454.size : Int) + (bt461.1.size : Int))) then (if (bt474.1.length : Int) = 64 then ((impl_CondOk.f bt449.1 bt449.2.1 bt449.2.2.1 bt449.2.2.2).bind fun t479 => (some t479)) else (some false)) else (some false)) else (some false))) else (some false)) else (some false)) else (some false))) else (none)))) else (none)) else (none))) else (none)))))))) = some true := h
 clear h
 replace H := Option.bind_eq_some_iff.mp H
 obtain ⟨t445, A20, H⟩ := H
 replace H : (if t445 = true then (some true) else ((spec_DrawLevels.f k l0 64).bind fun t446 => ((spec_DrawCond.f k l0).bind fun bt449 => ((spec_DrawRow.f k l0).bind fun t454 => ((some (([] : List Int) : List Int)).bind fun y455 => (if y455.length + t446.length < 17592186044416 then ((impl_LevelsRow.f k (y455 ++ t446) bt449.1 bt449.2.1 bt449.2.2.1 bt449.2.2.2).bind fun bt461 => (if t454.size + bt461.1.size ≤ 9223372036854775807 then (if (t454 ++ bt461.1).size + 1 ≤ 9223372036854775807 then ((impl_ReadLevels.f k ((t454 ++ bt461.1) ++ (⟨#[48]⟩ : ByteArray)) (t454.size : Int) bt449.1 bt449.2.1 bt449.2.2.1 bt449.2.2.2).bind fun bt463 => ((some (([] : List Int) : List Int)).bind fun y468 => (if y468.length + bt463.1.length < 17592186044416 then ((impl_LevelsBack.f k (y468 ++ bt463.1) bt449.1 bt449.2.1 bt449.2.2.1 bt449.2.2.2).bind fun bt474 => (if bt461.2 = true then (if bt463.2.2 = true then (if bt474.2 = true then ((laws_sameInts.f k bt463.1 t446).bind fun t478 => (if t478 = true then (if bt463.2.1 = (wrap64 ((t454.size : Int) + (bt461.1.size : Int))) then (if (bt474.1.length : Int) = 64 then ((impl_CondOk.f bt449.1 bt449.2.1 bt449.2.2.1 bt449.2.2.2).bind fun t479 => (some t479)) else (some false)) else (some false)) else (some false))) else (some false)) else (some false)) else (some false))) else (none)))) else (none)) else (none))) else (none))))))) = some true := H
 have A2 := Aside0.mk A20
 clear A20
 by_cases c3 : t445 = true
 ·subst c3
  have H1 : (some true) = some true := rfl
  clear H
  have H := H1
  clear H1
  have hfin_ := Option.some.inj H
  go_enter Try.func14, Try.ntmps14
  go_wp2_with (first | ((with_reducible refine gate_callee (f := 15) rfl ?_); refine goesL_ (some 14) rfl rfl Try.func15 (by kernel_rfl) rfl #[.slice A0 l0.length c0] rfl (by (try simp only [List.map_toArray, List.map_cons, List.map_nil]); first | done | rfl | (simp only [List.length_drop, List.length_take]; rfl)) ?_; (with_reducible refine (laws_big.calls _ _ l0 true _ ?side1 ?side2 A2.out).mono ?_); (case side1 => repeat (first | exact HR0.out | (with_reducible refine Kd.C_alloc ?_ _) | (with_reducible refine Kd.C_drewN ?_ _) | (with_reducible refine Kd.C_drew ?_))); (case side2 => exact HC0.out); rintro e w' ⟨rfl, ⟨nd, rfl⟩⟩; refine ⟨_, rfl, ?_⟩))
  go_ret
  exact ⟨by first | rfl | (simp [errW_none, errW_some] <;> rfl) | (simp [*, errW_none, errW_some] <;> rfl), by repeat (first | (with_reducible first | exact HB.out | apply below_alloc | apply pw_below_drewN | apply below_drew1) | exact HB.out)⟩
 ·replace c3 := Bool.eq_false_iff.mpr c3
  subst c3
  have H1 : ((spec_DrawLevels.f k l0 64).bind fun t446 => ((spec_DrawCond.f k l0).bind fun bt449 => ((spec_DrawRow.f k l0).bind fun t454 => ((some (([] : List Int) : List Int)).bind fun y455 => (if y455.length + t446.length < 17592186044416 then ((impl_LevelsRow.f k (y455 ++ t446) bt449.1 bt449.2.1 bt449.2.2.1 bt449.2.2.2).bind fun bt461 => (if t454.size + bt461.1.size ≤ 9223372036854775807 then (if (t454 ++ bt461.1).size + 1 ≤ 9223372036854775807 then ((impl_ReadLevels.f k ((t454 ++ bt461.1) ++ (⟨#[48]⟩ : ByteArray)) (t454.size : Int) bt449.1 bt449.2.1 bt449.2.2.1 bt449.2.2.2).bind fun bt463 => ((some (([] : List Int) : List Int)).bind fun y468 => (if y468.length + bt463.1.length < 17592186044416 then ((impl_LevelsBack.f k (y468 ++ bt463.1) bt449.1 bt449.2.1 bt449.2.2.1 bt449.2.2.2).bind fun bt474 => (if bt461.2 = true then (if bt463.2.2 = true then (if bt474.2 = true then ((laws_sameInts.f k bt463.1 t446).bind fun t478 => (if t478 = true then (if bt463.2.1 = (wrap64 ((t454.size : Int) + (bt461.1.size : Int))) then (if (bt474.1.length : Int) = 64 then ((impl_CondOk.f bt449.1 bt449.2.1 bt449.2.2.1 bt449.2.2.2).bind fun t479 => (some t479)) else (some false)) else (some false)) else (some false))) else (some false)) else (some false)) else (some false))) else (none)))) else (none)) else (none))) else (none)))))) = some true := by rw [if_neg (show ¬ (false = true) by decide)] at H; exact H
  clear H
  have H := H1
  clear H1
  replace H := Option.bind_eq_some_iff.mp H
  obtain ⟨t446, A40, H⟩ := H
  replace H : ((spec_DrawCond.f k l0).bind fun bt449 => ((spec_DrawRow.f k l0).bind fun t454 => ((some (([] : List Int) : List Int)).bind fun y455 => (if y455.length + t446.length < 17592186044416 then ((impl_LevelsRow.f k (y455 ++ t446) bt449.1 bt449.2.1 bt449.2.2.1 bt449.2.2.2).bind fun bt461 => (if t454.size + bt461.1.size ≤ 9223372036854775807 then (if (t454 ++ bt461.1).size + 1 ≤ 9223372036854775807 then ((impl_ReadLevels.f k ((t454 ++ bt461.1) ++ (⟨#[48]⟩ : ByteArray)) (t454.size : Int) bt449.1 bt449.2.1 bt449.2.2.1 bt449.2.2.2).bind fun bt463 => ((some (([] : List Int) : List Int)).bind fun y468 => (if y468.length + bt463.1.length < 17592186044416 then ((impl_LevelsBack.f k (y468 ++ bt463.1) bt449.1 bt449.2.1 bt449.2.2.1 bt449.2.2.2).bind fun bt474 => (if bt461.2 = true then (if bt463.2.2 = true then (if bt474.2 = true then ((laws_sameInts.f k bt463.1 t446).bind fun t478 => (if t478 = true then (if bt463.2.1 = (wrap64 ((t454.size : Int) + (bt461.1.size : Int))) then (if (bt474.1.length : Int) = 64 then ((impl_CondOk.f bt449.1 bt449.2.1 bt449.2.2.1 bt449.2.2.2).bind fun t479 => (some t479)) else (some false)) else (some false)) else (some false))) else (some false)) else (some false)) else (some false))) else (none)))) else (none)) else (none))) else (none))))) = some true := H
  have A4 := Aside0.mk A40
  clear A40
  replace H := Option.bind_eq_some_iff.mp H
  obtain ⟨⟨t449, t450, t451, t452⟩, A50, H⟩ := H
  replace H : ((spec_DrawRow.f k l0).bind fun t454 => ((some (([] : List Int) : List Int)).bind fun y455 => (if y455.length + t446.length < 17592186044416 then ((impl_LevelsRow.f k (y455 ++ t446) t449 t450 t451 t452).bind fun bt461 => (if t454.size + bt461.1.size ≤ 9223372036854775807 then (if (t454 ++ bt461.1).size + 1 ≤ 9223372036854775807 then ((impl_ReadLevels.f k ((t454 ++ bt461.1) ++ (⟨#[48]⟩ : ByteArray)) (t454.size : Int) t449 t450 t451 t452).bind fun bt463 => ((some (([] : List Int) : List Int)).bind fun y468 => (if y468.length + bt463.1.length < 17592186044416 then ((impl_LevelsBack.f k (y468 ++ bt463.1) t449 t450 t451 t452).bind fun bt474 => (if bt461.2 = true then (if bt463.2.2 = true then (if bt474.2 = true then ((laws_sameInts.f k bt463.1 t446).bind fun t478 => (if t478 = true then (if bt463.2.1 = (wrap64 ((t454.size : Int) + (bt461.1.size : Int))) then (if (bt474.1.length : Int) = 64 then ((impl_CondOk.f t449 t450 t451 t452).bind fun t479 => (some t479)) else (some false)) else (some false)) else (some false))) else (some false)) else (some false)) else (some false))) else (none)))) else (none)) else (none))) else (none)))) = some true := H
  have A5 := Aside0.mk A50
  clear A50
  replace H := Option.bind_eq_some_iff.mp H
  obtain ⟨t454, A60, H⟩ := H
  replace H : ((some (([] : List Int) : List Int)).bind fun y455 => (if y455.length + t446.length < 17592186044416 then ((impl_LevelsRow.f k (y455 ++ t446) t449 t450 t451 t452).bind fun bt461 => (if t454.size + bt461.1.size ≤ 9223372036854775807 then (if (t454 ++ bt461.1).size + 1 ≤ 9223372036854775807 then ((impl_ReadLevels.f k ((t454 ++ bt461.1) ++ (⟨#[48]⟩ : ByteArray)) (t454.size : Int) t449 t450 t451 t452).bind fun bt463 => ((some (([] : List Int) : List Int)).bind fun y468 => (if y468.length + bt463.1.length < 17592186044416 then ((impl_LevelsBack.f k (y468 ++ bt463.1) t449 t450 t451 t452).bind fun bt474 => (if bt461.2 = true then (if bt463.2.2 = true then (if bt474.2 = true then ((laws_sameInts.f k bt463.1 t446).bind fun t478 => (if t478 = true then (if bt463.2.1 = (wrap64 ((t454.size : Int) + (bt461.1.size : Int))) then (if (bt474.1.length : Int) = 64 then ((impl_CondOk.f t449 t450 t451 t452).bind fun t479 => (some t479)) else (some false)) else (some false)) else (some false))) else (some false)) else (some false)) else (some false))) else (none)))) else (none)) else (none))) else (none))) = some true := H
  have A6 := Aside0.mk A60
  clear A60
  obtain ⟨y455, hy455⟩ : ∃ y_ : List Int, y_ = (([] : List Int)) := ⟨_, rfl⟩
  replace H : (if y455.length + t446.length < 17592186044416 then ((impl_LevelsRow.f k (y455 ++ t446) t449 t450 t451 t452).bind fun bt461 => (if t454.size + bt461.1.size ≤ 9223372036854775807 then (if (t454 ++ bt461.1).size + 1 ≤ 9223372036854775807 then ((impl_ReadLevels.f k ((t454 ++ bt461.1) ++ (⟨#[48]⟩ : ByteArray)) (t454.size : Int) t449 t450 t451 t452).bind fun bt463 => ((some (([] : List Int) : List Int)).bind fun y468 => (if y468.length + bt463.1.length < 17592186044416 then ((impl_LevelsBack.f k (y468 ++ bt463.1) t449 t450 t451 t452).bind fun bt474 => (if bt461.2 = true then (if bt463.2.2 = true then (if bt474.2 = true then ((laws_sameInts.f k bt463.1 t446).bind fun t478 => (if t478 = true then (if bt463.2.1 = (wrap64 ((t454.size : Int) + (bt461.1.size : Int))) then (if (bt474.1.length : Int) = 64 then ((impl_CondOk.f t449 t450 t451 t452).bind fun t479 => (some t479)) else (some false)) else (some false)) else (some false))) else (some false)) else (some false)) else (some false))) else (none)))) else (none)) else (none))) else (none)) = some true := by first | (rw [hy455]; with_reducible exact H) | (have H2_ := (Option.bind_some _ _).symm.trans H; rw [hy455]; with_reducible exact H2_) | (have H2_ := (Option.bind_some _ _).symm.trans H; with_reducible exact H2_) | with_reducible exact H | (rw [hy455]; exact H) | exact H
  have Ny455 := Aside0.mk hy455
  clear hy455
  by_cases c7 : y455.length + t446.length < 17592186044416
  ·rw [if_pos c7] at H
   have LMc7 := Aside0.mk c7
   clear c7
   obtain ⟨y458, hy458⟩ : ∃ y_ : List Int, y_ = (y455 ++ t446) := ⟨_, rfl⟩
   replace H : ((impl_LevelsRow.f k y458 t449 t450 t451 t452).bind fun bt461 => (if t454.size + bt461.1.size ≤ 9223372036854775807 then (if (t454 ++ bt461.1).size + 1 ≤ 9223372036854775807 then ((impl_ReadLevels.f k ((t454 ++ bt461.1) ++ (⟨#[48]⟩ : ByteArray)) (t454.size : Int) t449 t450 t451 t452).bind fun bt463 => ((some (([] : List Int) : List Int)).bind fun y468 => (if y468.length + bt463.1.length < 17592186044416 then ((impl_LevelsBack.f k (y468 ++ bt463.1) t449 t450 t451 t452).bind fun bt474 => (if bt461.2 = true then (if bt463.2.2 = true then (if bt474.2 = true then ((laws_sameInts.f k bt463.1 t446).bind fun t478 => (if t478 = true then (if bt463.2.1 = (wrap64 ((t454.size : Int) + (bt461.1.size : Int))) then (if (bt474.1.length : Int) = 64 then ((impl_CondOk.f t449 t450 t451 t452).bind fun t479 => (some t479)) else (some false)) else (some false)) else (some false))) else (some false)) else (some false)) else (some false))) else (none)))) else (none)) else (none))) = some true := by first | (rw [hy458]; with_reducible exact H) | (have H2_ := (Option.bind_some _ _).symm.trans H; rw [hy458]; with_reducible exact H2_) | (have H2_ := (Option.bind_some _ _).symm.trans H; with_reducible exact H2_) | with_reducible exact H | (rw [hy458]; exact H) | exact H
   have Ny458 := Aside0.mk hy458
   clear hy458
   replace H := Option.bind_eq_some_iff.mp H
   obtain ⟨⟨t461, t462⟩, A80, H⟩ := H
   replace H : (if t454.size + t461.size ≤ 9223372036854775807 then (if (t454 ++ t461).size + 1 ≤ 9223372036854775807 then ((impl_ReadLevels.f k ((t454 ++ t461) ++ (⟨#[48]⟩ : ByteArray)) (t454.size : Int) t449 t450 t451 t452).bind fun bt463 => ((some (([] : List Int) : List Int)).bind fun y468 => (if y468.length + bt463.1.length < 17592186044416 then ((impl_LevelsBack.f k (y468 ++ bt463.1) t449 t450 t451 t452).bind fun bt474 => (if t462 = true then (if bt463.2.2 = true then (if bt474.2 = true then ((laws_sameInts.f k bt463.1 t446).bind fun t478 => (if t478 = true then (if bt463.2.1 = (wrap64 ((t454.size : Int) + (t461.size : Int))) then (if (bt474.1.length : Int) = 64 then ((impl_CondOk.f t449 t450 t451 t452).bind fun t479 => (some t479)) else (some false)) else (some false)) else (some false))) else (some false)) else (some false)) else (some false))) else (none)))) else (none)) else (none)) = some true := H
   have A8 := Aside0.mk A80
   clear A80
   by_cases c9 : t454.size + t461.size ≤ 9223372036854775807
   ·rw [if_pos c9] at H
    have c9b0 := eq_true c9
    have c9b1 : decide (t454.size + t461.size ≤ 9223372036854775807) = true := decide_eq_true c9
    try have c9b2 : (9223372036854775807 < t454.size + t461.size) = False := eq_false (Nat.not_lt.2 c9)
    (try (have c9b3 := c9b2; simp only [ByteArray.size_append] at c9b3))
    by_cases c10 : (t454 ++ t461).size + 1 ≤ 9223372036854775807
    ·rw [if_pos c10] at H
     have c10b0 := eq_true c10
     have c10b1 : decide ((t454 ++ t461).size + 1 ≤ 9223372036854775807) = true := decide_eq_true c10
     try have c10b2 : (9223372036854775807 < (t454 ++ t461).size + 1) = False := eq_false (Nat.not_lt.2 c10)
     (try (have c10b3 := c10b2; simp only [ByteArray.size_append] at c10b3))
     replace H := Option.bind_eq_some_iff.mp H
     obtain ⟨⟨t463, t466, t467⟩, A110, H⟩ := H
     replace H : ((some (([] : List Int) : List Int)).bind fun y468 => (if y468.length + t463.length < 17592186044416 then ((impl_LevelsBack.f k (y468 ++ t463) t449 t450 t451 t452).bind fun bt474 => (if t462 = true then (if t467 = true then (if bt474.2 = true then ((laws_sameInts.f k t463 t446).bind fun t478 => (if t478 = true then (if t466 = (wrap64 ((t454.size : Int) + (t461.size : Int))) then (if (bt474.1.length : Int) = 64 then ((impl_CondOk.f t449 t450 t451 t452).bind fun t479 => (some t479)) else (some false)) else (some false)) else (some false))) else (some false)) else (some false)) else (some false))) else (none))) = some true := H
     have A11 := Aside0.mk A110
     clear A110
     obtain ⟨y468, hy468⟩ : ∃ y_ : List Int, y_ = (([] : List Int)) := ⟨_, rfl⟩
     replace H : (if y468.length + t463.length < 17592186044416 then ((impl_LevelsBack.f k (y468 ++ t463) t449 t450 t451 t452).bind fun bt474 => (if t462 = true then (if t467 = true then (if bt474.2 = true then ((laws_sameInts.f k t463 t446).bind fun t478 => (if t478 = true then (if t466 = (wrap64 ((t454.size : Int) + (t461.size : Int))) then (if (bt474.1.length : Int) = 64 then ((impl_CondOk.f t449 t450 t451 t452).bind fun t479 => (some t479)) else (some false)) else (some false)) else (some false))) else (some false)) else (some false)) else (some false))) else (none)) = some true := by first | (rw [hy468]; with_reducible exact H) | (have H2_ := (Option.bind_some _ _).symm.trans H; rw [hy468]; with_reducible exact H2_) | (have H2_ := (Option.bind_some _ _).symm.trans H; with_reducible exact H2_) | with_reducible exact H | (rw [hy468]; exact H) | exact H
     have Ny468 := Aside0.mk hy468
     clear hy468
     by_cases c12 : y468.length + t463.length < 17592186044416
     ·rw [if_pos c12] at H
      have LMc12 := Aside0.mk c12
      clear c12
      obtain ⟨y471, hy471⟩ : ∃ y_ : List Int, y_ = (y468 ++ t463) := ⟨_, rfl⟩
      replace H : ((impl_LevelsBack.f k y471 t449 t450 t451 t452).bind fun bt474 => (if t462 = true then (if t467 = true then (if bt474.2 = true then ((laws_sameInts.f k t463 t446).bind fun t478 => (if t478 = true then (if t466 = (wrap64 ((t454.size : Int) + (t461.size : Int))) then (if (bt474.1.length : Int) = 64 then ((impl_CondOk.f t449 t450 t451 t452).bind fun t479 => (some t479)) else (some false)) else (some false)) else (some false))) else (some false)) else (some false)) else (some false))) = some true := by first | (rw [hy471]; with_reducible exact H) | (have H2_ := (Option.bind_some _ _).symm.trans H; rw [hy471]; with_reducible exact H2_) | (have H2_ := (Option.bind_some _ _).symm.trans H; with_reducible exact H2_) | with_reducible exact H | (rw [hy471]; exact H) | exact H
      have Ny471 := Aside0.mk hy471
      clear hy471
      replace H := Option.bind_eq_some_iff.mp H
      obtain ⟨⟨t474, t477⟩, A130, H⟩ := H
      replace H : (if t462 = true then (if t467 = true then (if t477 = true then ((laws_sameInts.f k t463 t446).bind fun t478 => (if t478 = true then (if t466 = (wrap64 ((t454.size : Int) + (t461.size : Int))) then (if (t474.length : Int) = 64 then ((impl_CondOk.f t449 t450 t451 t452).bind fun t479 => (some t479)) else (some false)) else (some false)) else (some false))) else (some false)) else (some false)) else (some false)) = some true := H
      have A13 := Aside0.mk A130
      clear A130
      by_cases c14 : t462 = true
      ·subst c14
       have H1 : (if t467 = true then (if t477 = true then ((laws_sameInts.f k t463 t446).bind fun t478 => (if t478 = true then (if t466 = (wrap64 ((t454.size : Int) + (t461.size : Int))) then (if (t474.length : Int) = 64 then ((impl_CondOk.f t449 t450 t451 t452).bind fun t479 => (some t479)) else (some false)) else (some false)) else (some false))) else (some false)) else (some false)) = some true := by rw [if_pos rfl] at H; exact H
       clear H
       have H := H1
       clear H1
       by_cases c15 : t467 = true
       ·subst c15
        have H1 : (if t477 = true then ((laws_sameInts.f k t463 t446).bind fun t478 => (if t478 = true then (if t466 = (wrap64 ((t454.size : Int) + (t461.size : Int))) then (if (t474.length : Int) = 64 then ((impl_CondOk.f t449 t450 t451 t452).bind fun t479 => (some t479)) else (some false)) else (some false)) else (some false))) else (some false)) = some true := by rw [if_pos rfl] at H; exact H
        clear H
        have H := H1
        clear H1
        by_cases c16 : t477 = true
        ·subst c16
         have H1 : ((laws_sameInts.f k t463 t446).bind fun t478 => (if t478 = true then (if t466 = (wrap64 ((t454.size : Int) + (t461.size : Int))) then (if (t474.length : Int) = 64 then ((impl_CondOk.f t449 t450 t451 t452).bind fun t479 => (some t479)) else (some false)) else (some false)) else (some false))) = some true := by rw [if_pos rfl] at H; exact H
         clear H
         have H := H1
         clear H1
         replace H := Option.bind_eq_some_iff.mp H
         obtain ⟨t478, A170, H⟩ := H
         replace H : (if t478 = true then (if t466 = (wrap64 ((t454.size : Int) + (t461.size : Int))) then (if (t474.length : Int) = 64 then ((impl_CondOk.f t449 t450 t451 t452).bind fun t479 => (some t479)) else (some false)) else (some false)) else (some false)) = some true := H
         have A17 := Aside0.mk A170
         clear A170
         by_cases c18 : t478 = true
         ·subst c18
          have H1 : (if t466 = (wrap64 ((t454.size : Int) + (t461.size : Int))) then (if (t474.length : Int) = 64 then ((impl_CondOk.f t449 t450 t451 t452).bind fun t479 => (some t479)) else (some false)) else (some false)) = some true := by rw [if_pos rfl] at H; exact H
          clear H
          have H := H1
          clear H1
          by_cases c19 : t466 = (wrap64 ((t454.size : Int) + (t461.size : Int)))
          ·rw [if_pos c19] at H
           have c19b0 : (t466 == (wrap64 ((t454.size : Int) + (t461.size : Int)))) = true := beq_iff_eq.mpr c19
           have c19b1 : (t466 != (wrap64 ((t454.size : Int) + (t461.size : Int)))) = false := bne_eq_false_iff_eq.mpr c19
           have c19u : (t466 = (t454.size : Int) + (t461.size : Int)) = True := eq_true (by rw [c19]; unfold wrap64; omega)
           clear c19
           by_cases c20 : (t474.length : Int) = 64
           ·rw [if_pos c20] at H
            have c20b0 : ((t474.length : Int) == 64) = true := beq_iff_eq.mpr c20
            have c20b1 : ((t474.length : Int) != 64) = false := bne_eq_false_iff_eq.mpr c20
            clear c20
            replace H := Option.bind_eq_some_iff.mp H
            obtain ⟨t479, A210, H⟩ := H
            replace H : (some t479) = some true := H
            have A21 := Aside0.mk A210
            clear A210
            have hfin_ := Option.some.inj H
            go_enter Try.func14, Try.ntmps14
            try go_wp2_with (first | ((with_reducible refine gate_callee (f := 15) rfl ?_); refine goesL_ (some 14) rfl rfl Try.func15 (by kernel_rfl) rfl #[.slice A0 l0.length c0] rfl (by (try simp only [List.map_toArray, List.map_cons, List.map_nil]); first | done | rfl | (simp only [List.length_drop, List.length_take]; rfl)) ?_; (with_reducible refine (laws_big.calls _ _ l0 false _ ?side1 ?side2 A2.out).mono ?_); (case side1 => repeat (first | exact HR0.out | (with_reducible refine Kd.C_alloc ?_ _) | (with_reducible refine Kd.C_drewN ?_ _) | (with_reducible refine Kd.C_drew ?_))); (case side2 => exact HC0.out); rintro e w' ⟨rfl, ⟨nd, rfl⟩⟩; refine ⟨_, rfl, ?_⟩) | ((with_reducible refine gate_callee (f := 55) rfl ?_); refine goesL_ (some 16) rfl rfl Try.func55 (by kernel_rfl) rfl #[.slice A0 l0.length c0, .int .i64 64] rfl (by (try simp only [List.map_toArray, List.map_cons, List.map_nil]); first | done | rfl | (simp only [List.length_drop, List.length_take]; rfl)) ?_; (with_reducible refine (spec_DrawLevels.calls k _ _ l0 64 t446 _ ?side1 ?side2 A4.out).mono ?_); (case side1 => repeat (first | exact HR0.out | (with_reducible refine Kd.C_alloc ?_ _) | (with_reducible refine Kd.C_drewN ?_ _) | (with_reducible refine Kd.C_drew ?_))); (case side2 => exact HC0.out); rintro e w22 ⟨v447, rfl, ho0, hb⟩; refine ⟨_, rfl, ?_⟩; have n0_ := Aside0.mk (Kd.R_lower ho0 (below_size (by repeat (first | (with_reducible first | exact HB.out | apply below_alloc | apply pw_below_drewN | apply below_drew1) | exact HB.out)))); have n1_ := Aside0.mk (below_step (by repeat (first | (with_reducible first | exact HB.out | apply below_alloc | apply pw_below_drewN | apply below_drew1) | exact HB.out)) hb); clear HB; have HO448 := n0_; have HB := n1_; clear n0_ n1_; (try clear hb); (try clear hb2); (try clear hk); (try clear hi); (try clear ho0)) | ((with_reducible refine gate_callee (f := 53) rfl ?_); refine goesL_ (some 18) rfl rfl Try.func53 (by kernel_rfl) rfl #[.slice A0 l0.length c0] rfl (by (try simp only [List.map_toArray, List.map_cons, List.map_nil]); first | done | rfl | (simp only [List.length_drop, List.length_take]; rfl)) ?_; (with_reducible refine (spec_DrawCond.calls k _ _ l0 t449 t450 t451 t452 _ ?side1 ?side2 A5.out).mono ?_); (case side1 => repeat (first | exact (Kd.C_below HR0.out HB.out) | (with_reducible refine Kd.C_alloc ?_ _) | (with_reducible refine Kd.C_drewN ?_ _) | (with_reducible refine Kd.C_drew ?_))); (case side2 => exact HC0.out); rintro e w23 ⟨rfl, hb⟩; refine ⟨_, rfl, ?_⟩; have n0_ := Aside0.mk (Kd.R_below (by (with_reducible repeat (first | apply Kd.R_alloc | apply Kd.R_drewN | apply Kd.R_drew)); exact HO448.out) hb); have n1_ := Aside0.mk (below_step (by repeat (first | (with_reducible first | exact HB.out | apply below_alloc | apply pw_below_drewN | apply below_drew1) | exact HB.out)) hb); clear HO448; clear HB; have HO448 := n0_; have HB := n1_; clear n0_ n1_; (try clear hb); (try clear hb2); (try clear hk); (try clear hi)) | ((with_reducible refine gate_dst (N := 4) rfl ?_); (try (refine gate_guard (by rfl) ?_; dsimp only)); refine box_event ?hg (N := 4) ?hd (cs := #[.bool false, .int .i64 0, .bool false, .bool false]) (t := 40) ?hr ?_; (case hd => rfl); (case hg => rfl); (case hr => first | (go_simp; done) | (go_simp; rfl)); intro gb453 hg w24 hbox hb; have n0_ := Aside0.mk (Kd.R_below (by (with_reducible repeat (first | apply Kd.R_alloc | apply Kd.R_drewN | apply Kd.R_drew)); exact HO448.out) hb); have n1_ := Aside0.mk (below_step (by repeat (first | (with_reducible first | exact HB.out | apply below_alloc | apply pw_below_drewN | apply below_drew1) | exact HB.out)) hb); have n2_ := Aside0.mk (hbox); have n3_ := Aside0.mk ((by rw [hg]; exact (below_size (by repeat (first | (with_reducible first | exact HB.out | apply below_alloc | apply pw_below_drewN | apply below_drew1) | exact HB.out))) : w.heap.size ≤ gb453)); have n4_ := Aside0.mk ((by rw [hg]; exact (below_size (by repeat (first | (with_reducible first | exact HB.out | apply below_alloc | apply pw_below_drewN | apply below_drew1) | exact HB.out))) : w.heap.size ≤ gb453)); clear HO448; clear HB; have HO448 := n0_; have HB := n1_; have BK453 := n2_; have GW453 := n3_; have GE453 := n4_; clear n0_ n1_ n2_ n3_ n4_; clear hb hbox hg; have hcz25_0 : w24.cell? ⟨gb453, 0, none⟩ = some (.bool false) := (blk_cell BK453.out 0).trans rfl; have hcz25_1 : w24.cell? ⟨gb453, 1, none⟩ = some (.int .i64 0) := (blk_cell BK453.out 1).trans rfl; have hcz25_2 : w24.cell? ⟨gb453, 2, none⟩ = some (.bool false) := (blk_cell BK453.out 2).trans rfl; have hcz25_3 : w24.cell? ⟨gb453, 3, none⟩ = some (.bool false) := (blk_cell BK453.out 3).trans rfl; have hfz25_0 := blk_frozen BK453.out 0; have hfz25_1 := blk_frozen BK453.out 1; have hfz25_2 := blk_frozen BK453.out 2; have hfz25_3 := blk_frozen BK453.out 3) | ((with_reducible refine gate_callee (f := 37) rfl ?_); refine goesL_ (some 20) rfl rfl Try.func37 (by kernel_rfl) rfl #[.slice A0 l0.length c0] rfl (by (try simp only [List.map_toArray, List.map_cons, List.map_nil]); first | done | rfl | (simp only [List.length_drop, List.length_take]; rfl)) ?_; (with_reducible refine (spec_DrawRow.calls k _ _ l0 t454 _ ?side1 ?side2 A6.out).mono ?_); (case side1 => exact Kd.C_below HR0.out (by repeat (first | (with_reducible first | exact HB.out | apply below_alloc | apply pw_below_drewN | apply below_drew1 | refine below_set ?_ GE453.out) | exact HB.out))); (case side2 => exact HC0.out); rintro e w26 ⟨rfl, hb⟩; refine ⟨_, rfl, ?_⟩; have n0_ := Aside0.mk (Kd.R_below (by (with_reducible repeat (first | apply Kd.R_alloc | apply Kd.R_drewN | apply Kd.R_drew)); exact (Kd.R_mono (Kd.R_far (p := ⟨gb453, 3, none⟩) (Kd.R_far (p := ⟨gb453, 2, none⟩) (Kd.R_far (p := ⟨gb453, 1, none⟩) (Kd.R_far (p := ⟨gb453, 0, none⟩) (Kd.R_types HO448.out BK453.out (by decide)) (fun _ hk => hk.2) (.bool t449)) (fun _ hk => hk.2) (.int .i64 t450)) (fun _ hk => hk.2) (.bool t451)) (fun _ hk => hk.2) (.bool t452)) (fun _ h_ => h_.1))) hb); have n1_ := Aside0.mk (blk_below (g := gb453) (o := .cells #[.bool t449, .int .i64 t450, .bool t451, .bool t452] 40 (0, 0)) (by (with_reducible repeat (first | refine blk_drewN ?_ _ | refine blk_drew ?_ | refine blk_alloc ?_ _)); refine blk_put (cs := #[.bool t449, .int .i64 t450, .bool t451, .bool false]) ?_ 3 _ rfl; (with_reducible repeat (first | refine blk_drewN ?_ _ | refine blk_drew ?_ | refine blk_alloc ?_ _)); refine blk_put (cs := #[.bool t449, .int .i64 t450, .bool false, .bool false]) ?_ 2 _ rfl; (with_reducible repeat (first | refine blk_drewN ?_ _ | refine blk_drew ?_ | refine blk_alloc ?_ _)); refine blk_put (cs := #[.bool t449, .int .i64 0, .bool false, .bool false]) ?_ 1 _ rfl; (with_reducible repeat (first | refine blk_drewN ?_ _ | refine blk_drew ?_ | refine blk_alloc ?_ _)); refine blk_put (cs := #[.bool false, .int .i64 0, .bool false, .bool false]) ?_ 0 _ rfl; (with_reducible repeat (first | refine blk_drewN ?_ _ | refine blk_drew ?_ | refine blk_alloc ?_ _)); exact BK453.out) hb); have n2_ := Aside0.mk (below_step (by repeat (first | (with_reducible first | exact HB.out | apply below_alloc | apply pw_below_drewN | apply below_drew1 | refine below_set ?_ GE453.out) | exact HB.out)) hb); clear HO448; clear BK453; clear HB; have HO448 := n0_; have BK453 := n1_; have HB := n2_; clear n0_ n1_ n2_; (try clear hb); (try clear hb2); (try clear hk); (try clear hi)))
            have n0_ := Aside0.mk (Kd.R_drew HO448.out)
            have n1_ := Aside0.mk (blk_drew BK453.out)
            have n2_ := Aside0.mk (below_drew1 HB.out)
            clear HO448
            clear BK453
            clear HB
            have HO448 := n0_
            have BK453 := n1_
            have HB := n2_
            clear n0_ n1_ n2_
            refine start_ (n := 10) (S := fun w' => w'.cell? ⟨gb453, 0, none⟩ = some (.bool t449) ∧ w'.cell? ⟨gb453, 1, none⟩ = some (.int .i64 t450) ∧ w'.cell? ⟨gb453, 2, none⟩ = some (.bool t451) ∧ w'.cell? ⟨gb453, 3, none⟩ = some (.bool t452)) (ds := []) #[Z,Z,Z,Z,Z,Z,Z,Z,Z,Z] (by kernel_rfl) rfl rfl ⟨(blk_cell BK453.out 0).trans rfl, (blk_cell BK453.out 1).trans rfl, (blk_cell BK453.out 2).trans rfl, (blk_cell BK453.out 3).trans rfl⟩ (fun hHeld => ?_); refine with_tabW laws_FnLevelRows.tab6 laws_FnLevelRows.bits6 (fun HT_ HW_ => ?_)
            generalize w26.drew = w27 at HO448 BK453 HB hHeld ⊢
            refine pure_ (i := 1) (N := some 23) (v := ?_) (a' := ?_) #[Z,Y,Z,Z,Z,Z,Z,Z,Z,Z] rfl rfl (any_of HT_.out (by kernel_rfl)) (fun _ _ _ h => h) (Or.inl ⟨by rfl, ?_⟩) ?_ ?_
            rotate_left
            ·intro w'
             go_simp
             with_reducible rfl
            rotate_left
            ·simp only [Act.put, List.setIfInBounds_toArray, List.set_cons_zero, List.set_cons_succ, i64_w, i32_w]
             rfl
            refine take_ (i := 3) (N := some 25) (v := ?_) (a' := ?_) #[Z,Y,Z,Y,Z,Z,Z,Z,Z,Z] rfl rfl (take_ofW HT_.out HW_.out (by kernel_rfl)) (fun _ _ _ h => h) (Or.inl ⟨by rfl, ?_⟩) hHeld ?_ ?_
            rotate_left
            ·rintro w' ⟨s0, s1, s2, s3⟩
             go_simp
             with_reducible rfl
            rotate_left
            ·simp only [Act.put, List.setIfInBounds_toArray, List.set_cons_zero, List.set_cons_succ, i64_w, i32_w]
             rfl
            refine one_ (i := 0) (N := some 22) #[Y,Y,Z,Y,Z,Z,Z,Z,Z,Z] rfl rfl (one_of HT_.out (by kernel_rfl)) (by decide) (fun K hK => ?_)
            refine Kd.R_lit_step (Kd.int .i64) _ 3 ?hg (N := 22) ?hd (xs := ([] : List Int)) (inner := []) (ok := fun _ => True) (okp := fun _ => True) ?hr ?hp (fun _ hk => hk) trivial (Below.refl _ _) (Nat.le_refl _) (by simp) ?_; (case hd => rfl); (case hg => rfl); (case hr => first | (go_simp; done) | (go_simp; rfl)); (case hp => exact (Reps.none _ _))
            intro v456 w28 ho29 hb hg_ hnew_
            clear hg_ hnew_
            (first | rw [← Ny455.out] at ho29 | (simp only [Int.reduceToNat] at ho29; rw [← Ny455.out] at ho29))
            have n0_ := Aside0.mk (Kd.R_elder' (by (with_reducible repeat (first | apply Kd.R_alloc | apply Kd.R_drewN | apply Kd.R_drew)); exact HO448.out) (Kd.R_base ho29) hb)
            have n1_ := Aside0.mk (Kd.R_lower (Kd.R_new' ho29 (Kd.R_lt (by (with_reducible repeat (first | apply Kd.R_alloc | apply Kd.R_drewN | apply Kd.R_drew)); exact HO448.out))) (below_size (by repeat (first | (with_reducible first | exact HB.out | apply below_alloc | apply pw_below_drewN | apply below_drew1 | refine below_set ?_ GE453.out) | exact HB.out))))
            have n2_ := Aside0.mk (blk_below (g := gb453) (o := .cells #[.bool t449, .int .i64 t450, .bool t451, .bool t452] 40 (0, 0)) (by (with_reducible repeat (first | refine blk_drewN ?_ _ | refine blk_drew ?_ | refine blk_alloc ?_ _)); exact BK453.out) hb)
            have n3_ := Aside0.mk (below_step (by repeat (first | (with_reducible first | exact HB.out | apply below_alloc | apply pw_below_drewN | apply below_drew1 | refine below_set ?_ GE453.out) | exact HB.out)) hb)
            clear HO448
            clear BK453
            clear HB
            have HO448 := n0_
            have HO457 := n1_
            have BK453 := n2_
            have HB := n3_
            clear n0_ n1_ n2_ n3_
            clear hb ho29
            obtain ⟨Ao31, co31, eo31⟩ := Kd.R_slice HO448.out
            (first | subst eo31 | (injection eo31 with f1_ f2_ f3_; have f4_ := f1_.symm; have f5_ := f3_.symm; clear f1_ f2_ f3_; subst f4_; subst f5_))
            refine hK.out _ _ ⟨(blk_cell BK453.out 0).trans rfl, (blk_cell BK453.out 1).trans rfl, (blk_cell BK453.out 2).trans rfl, (blk_cell BK453.out 3).trans rfl⟩ (fun hHeld => ?_)
            clear hK K
            refine norm_ (a' := ?_) ?_ ?_
            rotate_left
            ·show Act.put _ (some 22) _ = _
             simp only [Act.put, List.setIfInBounds_toArray, List.set_cons_zero, List.set_cons_succ, i64_w, i32_w]
             rfl
            refine one_ (i := 2) (N := some 24) #[Y,Y,Y,Y,Z,Z,Z,Z,Z,Z] rfl rfl (one_of HT_.out (by kernel_rfl)) (by decide) (fun K hK => ?_)
            refine Kd.R_append_rows_step (Kd.int .i64) (w0 := w) w.heap.size (by rfl) (.tmp 22) (.tmp 23) 24 3 (.int .i64 0) 8 rfl Try.underlying24 info3 rfl (by decide) (by omega) v456 y455 t446 _ _ _ (fun k_ => some k_ ≠ (.slice Ao31 t446.length co31 : Value).ownBlock) (fun _ => False) rfl rfl ?aO ?aR (fun _ _ h => h) (fun _ h => h.elim) ?aF ?aB ?aS ?aL ?_
            (case aR => repeat (first | exact (Kd.R_reads' HO448.out).2.2 | (with_reducible refine Kd.C_alloc ?_ _) | (with_reducible refine Kd.C_drewN ?_ _) | (with_reducible refine Kd.C_drew ?_)))
            (case aB => exact (by repeat (first | (with_reducible first | exact HB.out | apply below_alloc | apply pw_below_drewN | apply below_drew1 | refine below_set ?_ GE453.out) | exact HB.out)))
            (case aF => exact (fun k_ hk => Kd.fresh' (Kd.R_lt (by (with_reducible repeat (first | apply Kd.R_alloc | apply Kd.R_drewN | apply Kd.R_drew)); exact HO448.out)) k_ hk))
            (case aO => exact (by (with_reducible repeat (first | apply Kd.R_alloc | apply Kd.R_drewN | apply Kd.R_drew)); exact Kd.R_mono HO457.out (fun _ hk => hk.2)))
            (case aS => exact (below_size (by repeat (first | (with_reducible first | exact HB.out | apply below_alloc | apply pw_below_drewN | apply below_drew1 | refine below_set ?_ GE453.out) | exact HB.out))))
            (case aL => have := LMc7.out; omega)
            intro v459 w30 ho hb hg hat
            rw [← Ny458.out] at ho
            have n0_ := Aside0.mk (Kd.R_after (ok := (fun _ => True)) (by (with_reducible repeat (first | apply Kd.R_alloc | apply Kd.R_drewN | apply Kd.R_drew)); exact HO448.out) hg hat)
            have n1_ := Aside0.mk (blk_grown (g := gb453) (o := .cells #[.bool t449, .int .i64 t450, .bool t451, .bool t452] 40 (0, 0)) (by (with_reducible repeat (first | refine blk_drewN ?_ _ | refine blk_drew ?_ | refine blk_alloc ?_ _)); exact BK453.out) hg (Kd.R_ne HO457.out BK453.out (by decide)))
            have n2_ := Aside0.mk (hb)
            have n3_ := Aside0.mk (ho)
            clear HO448
            clear BK453
            clear HB
            clear HO457
            have HO448 := n0_
            have BK453 := n1_
            have HB := n2_
            have HO460 := n3_
            clear n0_ n1_ n2_ n3_
            clear ho hb hg hat
            obtain ⟨Ao32, co32, eo32⟩ := Kd.R_slice HO460.out
            (first | subst eo32 | (injection eo32 with f1_ f2_ f3_; have f4_ := f1_.symm; have f5_ := f3_.symm; clear f1_ f2_ f3_; subst f4_; subst f5_))
            refine hK.out _ _ ⟨(blk_cell BK453.out 0).trans rfl, (blk_cell BK453.out 1).trans rfl, (blk_cell BK453.out 2).trans rfl, (blk_cell BK453.out 3).trans rfl⟩ (fun hHeld => ?_)
            clear hK K
            refine norm_ (a' := ?_) ?_ ?_
            rotate_left
            ·show Act.put _ (some 24) _ = _
             simp only [Act.put, List.setIfInBounds_toArray, List.set_cons_zero, List.set_cons_succ, i64_w, i32_w]
             rfl
            refine one_ (i := 4) (N := some 26) #[Y,Y,Y,Y,Y,Z,Z,Z,Z,Z] rfl rfl (one_of HT_.out (by kernel_rfl)) (by decide) (fun K hK => ?_)
            refine goes_ Try.func56 (by kernel_rfl) rfl #[.slice Ao32 y458.length co32, .agg #[.bool t449, .int .i64 t450, .bool t451, .bool t452]] (by rfl) rfl rfl (by (try simp only [List.map_toArray, List.map_cons, List.map_nil]); first | done | rfl | (simp only [List.length_drop, List.length_take]; rfl)) ?_
            with_reducible refine (impl_LevelsRow.calls k _ _ y458 t449 t450 t451 t452 t461 true _ ?side1 ?side2 A8.out).mono ?_
            (case side1 => repeat (first | exact (Kd.R_reads' HO460.out).2.2 | (with_reducible refine Kd.C_alloc ?_ _) | (with_reducible refine Kd.C_drewN ?_ _) | (with_reducible refine Kd.C_drew ?_)))
            (case side2 => exact (Kd.R_reads' HO460.out).2.1)
            rintro e w33 ⟨rfl, hb⟩
            refine ⟨_, rfl, ?_⟩
            have n0_ := Aside0.mk (Kd.R_below (by (with_reducible repeat (first | apply Kd.R_alloc | apply Kd.R_drewN | apply Kd.R_drew)); exact HO448.out) hb)
            have n1_ := Aside0.mk (Kd.R_below (by (with_reducible repeat (first | apply Kd.R_alloc | apply Kd.R_drewN | apply Kd.R_drew)); exact HO460.out) hb)
            have n2_ := Aside0.mk (blk_below (g := gb453) (o := .cells #[.bool t449, .int .i64 t450, .bool t451, .bool t452] 40 (0, 0)) (by (with_reducible repeat (first | refine blk_drewN ?_ _ | refine blk_drew ?_ | refine blk_alloc ?_ _)); exact BK453.out) hb)
            have n3_ := Aside0.mk (below_step (by repeat (first | (with_reducible first | exact HB.out | apply below_alloc | apply pw_below_drewN | apply below_drew1 | refine below_set ?_ GE453.out) | exact HB.out)) hb)
            clear HO448
            clear HO460
            clear BK453
            clear HB
            have HO448 := n0_
            have HO460 := n1_
            have BK453 := n2_
            have HB := n3_
            clear n0_ n1_ n2_ n3_
            (try clear hb)
            (try clear hb2)
            (try clear hk)
            (try clear hi)
            refine hK.out _ _ ⟨(blk_cell BK453.out 0).trans rfl, (blk_cell BK453.out 1).trans rfl, (blk_cell BK453.out 2).trans rfl, (blk_cell BK453.out 3).trans rfl⟩ (fun hHeld => ?_)
            clear hK K
            refine norm_ (a' := ?_) ?_ ?_
            rotate_left
            ·show Act.put _ (some 26) _ = _
             simp only [Act.put, List.setIfInBounds_toArray, List.set_cons_zero, List.set_cons_succ, i64_w, i32_w]
             rfl
            refine pure_ (i := 5) (N := some 21) (v := ?_) (a' := ?_) #[Y,Y,Y,Y,Y,Y,Z,Z,Z,Z] rfl rfl (any_of HT_.out (by kernel_rfl)) (fun _ _ _ h => h) (Or.inl ⟨by rfl, ?_⟩) ?_ ?_
            rotate_left
            ·intro w'
             go_simp
             with_reducible rfl
            rotate_left
            ·simp only [Act.put, List.setIfInBounds_toArray, List.set_cons_zero, List.set_cons_succ, i64_w, i32_w]
             rfl
            refine pure_ (i := 6) (N := some 27) (v := ?_) (a' := ?_) #[Y,Y,Y,Y,Y,Y,Y,Z,Z,Z] rfl rfl (any_of HT_.out (by kernel_rfl)) (fun _ _ _ h => h) (Or.inl ⟨by rfl, ?_⟩) ?_ ?_
            rotate_left
            ·intro w'
             go_simp
             with_reducible rfl
            rotate_left
            ·simp only [Act.put, List.setIfInBounds_toArray, List.set_cons_zero, List.set_cons_succ, i64_w, i32_w]
             rfl
            refine pure_ (i := 7) (N := some 28) (v := ?_) (a' := ?_) #[Y,Y,Y,Y,Y,Y,Y,Y,Z,Z] rfl rfl (any_of HT_.out (by kernel_rfl)) (fun _ _ _ h => h) (Or.inl ⟨by rfl, ?_⟩) ?_ ?_
            rotate_left
            ·intro w'
             go_simp
             with_reducible rfl
            rotate_left
            ·simp only [Act.put, List.setIfInBounds_toArray, List.set_cons_zero, List.set_cons_succ, i64_w, i32_w]
             rfl
            refine pure_ (i := 8) (N := some 6) (v := ?_) (a' := ?_) #[Y,Y,Y,Y,Y,Y,Y,Y,Y,Z] rfl rfl (any_of HT_.out (by kernel_rfl)) (fun _ _ _ h => h) (Or.inl ⟨by rfl, ?_⟩) ?_ ?_
            rotate_left
            ·intro w'
             go_simp
             with_reducible rfl
            rotate_left
            ·simp only [Act.put, List.setIfInBounds_toArray, List.set_cons_zero, List.set_cons_succ, i64_w, i32_w]
             rfl
            refine pure_ (i := 9) (N := some 7) (v := ?_) (a' := ?_) #[Y,Y,Y,Y,Y,Y,Y,Y,Y,Y] rfl rfl (any_of HT_.out (by kernel_rfl)) (fun _ _ _ h => h) (Or.inl ⟨by rfl, ?_⟩) ?_ ?_
            rotate_left
            ·intro w'
             go_simp
             with_reducible rfl
            rotate_left
            ·simp only [Act.put, List.setIfInBounds_toArray, List.set_cons_zero, List.set_cons_succ, i64_w, i32_w]
             rfl
            refine done_ (done_of HT_.out (by kernel_rfl)) ?_
            have hcz34_0 : w33.cell? ⟨gb453, 0, none⟩ = some (.bool t449) := (blk_cell BK453.out 0).trans rfl
            have hcz34_1 : w33.cell? ⟨gb453, 1, none⟩ = some (.int .i64 t450) := (blk_cell BK453.out 1).trans rfl
            have hcz34_2 : w33.cell? ⟨gb453, 2, none⟩ = some (.bool t451) := (blk_cell BK453.out 2).trans rfl
            have hcz34_3 : w33.cell? ⟨gb453, 3, none⟩ = some (.bool t452) := (blk_cell BK453.out 3).trans rfl
            have hfz34_0 := blk_frozen BK453.out 0
            have hfz34_1 := blk_frozen BK453.out 1
            have hfz34_2 := blk_frozen BK453.out 2
            have hfz34_3 := blk_frozen BK453.out 3
            try go_wp2_with (first | ((with_reducible refine gate_callee (f := 57) rfl ?_); refine goesL_ (some 37) rfl rfl Try.func57 (by kernel_rfl) rfl #[.string ((t454 ++ t461) ++ (⟨#[48]⟩ : ByteArray)), .int .i64 (t454.size : Int), .agg #[.bool t449, .int .i64 t450, .bool t451, .bool t452]] rfl (by (try simp only [List.map_toArray, List.map_cons, List.map_nil]); first | done | rfl | (simp only [List.length_drop, List.length_take]; rfl)) ?_; (with_reducible refine (impl_ReadLevels.calls k ((t454 ++ t461) ++ (⟨#[48]⟩ : ByteArray)) (t454.size : Int) t449 t450 t451 t452 t463 t466 true _ A11.out).mono ?_); rintro e w35 ⟨v464, rfl, ho0, hb⟩; refine ⟨_, rfl, ?_⟩; have n0_ := Aside0.mk (Kd.R_elder' (by (with_reducible repeat (first | apply Kd.R_alloc | apply Kd.R_drewN | apply Kd.R_drew)); exact HO448.out) (Kd.R_base ho0) hb); have n1_ := Aside0.mk (Kd.R_elder' (by (with_reducible repeat (first | apply Kd.R_alloc | apply Kd.R_drewN | apply Kd.R_drew)); exact HO460.out) (Kd.R_base ho0) hb); have n2_ := Aside0.mk (Kd.R_lower (Kd.R_new' (Kd.R_new' ho0 (Kd.R_lt (by (with_reducible repeat (first | apply Kd.R_alloc | apply Kd.R_drewN | apply Kd.R_drew)); exact HO448.out))) (Kd.R_lt (by (with_reducible repeat (first | apply Kd.R_alloc | apply Kd.R_drewN | apply Kd.R_drew)); exact HO460.out))) (below_size (by repeat (first | (with_reducible first | exact HB.out | apply below_alloc | apply pw_below_drewN | apply below_drew1 | refine below_set ?_ GE453.out) | exact HB.out)))); have n3_ := Aside0.mk (blk_below (g := gb453) (o := .cells #[.bool t449, .int .i64 t450, .bool t451, .bool t452] 40 (0, 0)) (by (with_reducible repeat (first | refine blk_drewN ?_ _ | refine blk_drew ?_ | refine blk_alloc ?_ _)); exact BK453.out) hb); have n4_ := Aside0.mk (below_step (by repeat (first | (with_reducible first | exact HB.out | apply below_alloc | apply pw_below_drewN | apply below_drew1 | refine below_set ?_ GE453.out) | exact HB.out)) hb); clear HO448; clear HO460; clear BK453; clear HB; have HO448 := n0_; have HO460 := n1_; have HO465 := n2_; have BK453 := n3_; have HB := n4_; clear n0_ n1_ n2_ n3_ n4_; (try clear hb); (try clear hb2); (try clear hk); (try clear hi); (try clear ho0)))
            have n0_ := Aside0.mk (Kd.R_drew HO448.out)
            have n1_ := Aside0.mk (Kd.R_drew HO460.out)
            have n2_ := Aside0.mk (Kd.R_drew HO465.out)
            have n3_ := Aside0.mk (blk_drew BK453.out)
            have n4_ := Aside0.mk (below_drew1 HB.out)
            clear HO448
            clear HO460
            clear HO465
            clear BK453
            clear HB
            have HO448 := n0_
            have HO460 := n1_
            have HO465 := n2_
            have BK453 := n3_
            have HB := n4_
            clear n0_ n1_ n2_ n3_ n4_
            refine start_ (n := 10) (S := fun w' => w'.cell? ⟨gb453, 0, none⟩ = some (.bool t449) ∧ w'.cell? ⟨gb453, 1, none⟩ = some (.int .i64 t450) ∧ w'.cell? ⟨gb453, 2, none⟩ = some (.bool t451) ∧ w'.cell? ⟨gb453, 3, none⟩ = some (.bool t452)) (ds := []) #[Z,Z,Z,Z,Z,Z,Z,Z,Z,Z] (by kernel_rfl) rfl rfl ⟨(blk_cell BK453.out 0).trans rfl, (blk_cell BK453.out 1).trans rfl, (blk_cell BK453.out 2).trans rfl, (blk_cell BK453.out 3).trans rfl⟩ (fun hHeld => ?_); refine with_tabW laws_FnLevelRows.tab8 laws_FnLevelRows.bits8 (fun HT_ HW_ => ?_)
            generalize w35.drew = w36 at HO448 HO460 HO465 BK453 HB hHeld ⊢
            refine pure_ (i := 1) (N := some 43) (v := ?_) (a' := ?_) #[Z,Y,Z,Z,Z,Z,Z,Z,Z,Z] rfl rfl (any_of HT_.out (by kernel_rfl)) (fun _ _ _ h => h) (Or.inl ⟨by rfl, ?_⟩) ?_ ?_
            rotate_left
            ·intro w'
             go_simp
             with_reducible rfl
            rotate_left
            ·simp only [Act.put, List.setIfInBounds_toArray, List.set_cons_zero, List.set_cons_succ, i64_w, i32_w]
             rfl
            refine take_ (i := 3) (N := some 45) (v := ?_) (a' := ?_) #[Z,Y,Z,Y,Z,Z,Z,Z,Z,Z] rfl rfl (take_ofW HT_.out HW_.out (by kernel_rfl)) (fun _ _ _ h => h) (Or.inl ⟨by rfl, ?_⟩) hHeld ?_ ?_
            rotate_left
            ·rintro w' ⟨s0, s1, s2, s3⟩
             go_simp
             with_reducible rfl
            rotate_left
            ·simp only [Act.put, List.setIfInBounds_toArray, List.set_cons_zero, List.set_cons_succ, i64_w, i32_w]
             rfl
            refine one_ (i := 0) (N := some 42) #[Y,Y,Z,Y,Z,Z,Z,Z,Z,Z] rfl rfl (one_of HT_.out (by kernel_rfl)) (by decide) (fun K hK => ?_)
            refine Kd.R_lit_step (Kd.int .i64) _ 3 ?hg (N := 42) ?hd (xs := ([] : List Int)) (inner := []) (ok := fun _ => True) (okp := fun _ => True) ?hr ?hp (fun _ hk => hk) trivial (Below.refl _ _) (Nat.le_refl _) (by simp) ?_; (case hd => rfl); (case hg => rfl); (case hr => first | (go_simp; done) | (go_simp; rfl)); (case hp => exact (Reps.none _ _))
            intro v469 w37 ho38 hb hg_ hnew_
            clear hg_ hnew_
            (first | rw [← Ny468.out] at ho38 | (simp only [Int.reduceToNat] at ho38; rw [← Ny468.out] at ho38))
            have n0_ := Aside0.mk (Kd.R_elder' (by (with_reducible repeat (first | apply Kd.R_alloc | apply Kd.R_drewN | apply Kd.R_drew)); exact HO448.out) (Kd.R_base ho38) hb)
            have n1_ := Aside0.mk (Kd.R_elder' (by (with_reducible repeat (first | apply Kd.R_alloc | apply Kd.R_drewN | apply Kd.R_drew)); exact HO460.out) (Kd.R_base ho38) hb)
            have n2_ := Aside0.mk (Kd.R_elder' (by (with_reducible repeat (first | apply Kd.R_alloc | apply Kd.R_drewN | apply Kd.R_drew)); exact HO465.out) (Kd.R_base ho38) hb)
            have n3_ := Aside0.mk (Kd.R_lower (Kd.R_new' (Kd.R_new' (Kd.R_new' ho38 (Kd.R_lt (by (with_reducible repeat (first | apply Kd.R_alloc | apply Kd.R_drewN | apply Kd.R_drew)); exact HO448.out))) (Kd.R_lt (by (with_reducible repeat (first | apply Kd.R_alloc | apply Kd.R_drewN | apply Kd.R_drew)); exact HO460.out))) (Kd.R_lt (by (with_reducible repeat (first | apply Kd.R_alloc | apply Kd.R_drewN | apply Kd.R_drew)); exact HO465.out))) (below_size (by repeat (first | (with_reducible first | exact HB.out | apply below_alloc | apply pw_below_drewN | apply below_drew1 | refine below_set ?_ GE453.out) | exact HB.out))))
            have n4_ := Aside0.mk (blk_below (g := gb453) (o := .cells #[.bool t449, .int .i64 t450, .bool t451, .bool t452] 40 (0, 0)) (by (with_reducible repeat (first | refine blk_drewN ?_ _ | refine blk_drew ?_ | refine blk_alloc ?_ _)); exact BK453.out) hb)
            have n5_ := Aside0.mk (below_step (by repeat (first | (with_reducible first | exact HB.out | apply below_alloc | apply pw_below_drewN | apply below_drew1 | refine below_set ?_ GE453.out) | exact HB.out)) hb)
            clear HO448
            clear HO460
            clear HO465
            clear BK453
            clear HB
            have HO448 := n0_
            have HO460 := n1_
            have HO465 := n2_
            have HO470 := n3_
            have BK453 := n4_
            have HB := n5_
            clear n0_ n1_ n2_ n3_ n4_ n5_
            clear hb ho38
            obtain ⟨Ao40, co40, eo40⟩ := Kd.R_slice HO465.out
            (first | subst eo40 | (injection eo40 with f1_ f2_ f3_; have f4_ := f1_.symm; have f5_ := f3_.symm; clear f1_ f2_ f3_; subst f4_; subst f5_))
            refine hK.out _ _ ⟨(blk_cell BK453.out 0).trans rfl, (blk_cell BK453.out 1).trans rfl, (blk_cell BK453.out 2).trans rfl, (blk_cell BK453.out 3).trans rfl⟩ (fun hHeld => ?_)
            clear hK K
            refine norm_ (a' := ?_) ?_ ?_
            rotate_left
            ·show Act.put _ (some 42) _ = _
             simp only [Act.put, List.setIfInBounds_toArray, List.set_cons_zero, List.set_cons_succ, i64_w, i32_w]
             rfl
            refine one_ (i := 2) (N := some 44) #[Y,Y,Y,Y,Z,Z,Z,Z,Z,Z] rfl rfl (one_of HT_.out (by kernel_rfl)) (by decide) (fun K hK => ?_)
            refine Kd.R_append_rows_step (Kd.int .i64) (w0 := w) w.heap.size (by rfl) (.tmp 42) (.tmp 43) 24 3 (.int .i64 0) 8 rfl Try.underlying24 info3 rfl (by decide) (by omega) v469 y468 t463 _ _ _ (fun k_ => some k_ ≠ (.slice Ao31 t446.length co31 : Value).ownBlock ∧ some k_ ≠ (.slice Ao32 y458.length co32 : Value).ownBlock ∧ some k_ ≠ (.slice Ao40 t463.length co40 : Value).ownBlock) (fun _ => False) rfl rfl ?aO ?aR (fun _ _ h => h) (fun _ h => h.elim) ?aF ?aB ?aS ?aL ?_
            (case aR => repeat (first | exact (Kd.R_reads' HO465.out).2.2 | (with_reducible refine Kd.C_alloc ?_ _) | (with_reducible refine Kd.C_drewN ?_ _) | (with_reducible refine Kd.C_drew ?_)))
            (case aB => exact (by repeat (first | (with_reducible first | exact HB.out | apply below_alloc | apply pw_below_drewN | apply below_drew1 | refine below_set ?_ GE453.out) | exact HB.out)))
            (case aF => exact (fun k_ hk => ⟨Kd.fresh' (Kd.R_lt (by (with_reducible repeat (first | apply Kd.R_alloc | apply Kd.R_drewN | apply Kd.R_drew)); exact HO448.out)) k_ hk, Kd.fresh' (Kd.R_lt (by (with_reducible repeat (first | apply Kd.R_alloc | apply Kd.R_drewN | apply Kd.R_drew)); exact HO460.out)) k_ hk, Kd.fresh' (Kd.R_lt (by (with_reducible repeat (first | apply Kd.R_alloc | apply Kd.R_drewN | apply Kd.R_drew)); exact HO465.out)) k_ hk⟩))
            (case aO => exact (by (with_reducible repeat (first | apply Kd.R_alloc | apply Kd.R_drewN | apply Kd.R_drew)); exact Kd.R_mono HO470.out (fun _ hk => ⟨hk.1.1.2, ⟨hk.1.2, hk.2⟩⟩)))
            (case aS => exact (below_size (by repeat (first | (with_reducible first | exact HB.out | apply below_alloc | apply pw_below_drewN | apply below_drew1 | refine below_set ?_ GE453.out) | exact HB.out))))
            (case aL => have := LMc12.out; omega)
            intro v472 w39 ho hb hg hat
            rw [← Ny471.out] at ho
            have n0_ := Aside0.mk (Kd.R_after (ok := (fun k_ => some k_ ≠ (.slice Ao32 y458.length co32 : Value).ownBlock ∧ some k_ ≠ (.slice Ao40 t463.length co40 : Value).ownBlock)) (by (with_reducible repeat (first | apply Kd.R_alloc | apply Kd.R_drewN | apply Kd.R_drew)); exact Kd.R_mono HO448.out (fun _ hk => ⟨⟨hk.1.1.2, hk.1.2⟩, hk.2⟩)) hg hat)
            have n1_ := Aside0.mk (blk_grown (g := gb453) (o := .cells #[.bool t449, .int .i64 t450, .bool t451, .bool t452] 40 (0, 0)) (by (with_reducible repeat (first | refine blk_drewN ?_ _ | refine blk_drew ?_ | refine blk_alloc ?_ _)); exact BK453.out) hg (Kd.R_ne HO470.out BK453.out (by decide)))
            have n2_ := Aside0.mk (Kd.R_after (ok := (fun k_ => some k_ ≠ (.slice Ao31 t446.length co31 : Value).ownBlock ∧ some k_ ≠ (.slice Ao40 t463.length co40 : Value).ownBlock)) (by (with_reducible repeat (first | apply Kd.R_alloc | apply Kd.R_drewN | apply Kd.R_drew)); exact HO460.out) hg hat)
            have n3_ := Aside0.mk (Kd.R_after (ok := (fun k_ => some k_ ≠ (.slice Ao31 t446.length co31 : Value).ownBlock ∧ some k_ ≠ (.slice Ao32 y458.length co32 : Value).ownBlock)) (by (with_reducible repeat (first | apply Kd.R_alloc | apply Kd.R_drewN | apply Kd.R_drew)); exact Kd.R_mono HO465.out (fun _ hk => ⟨⟨hk.1.1.2, hk.1.2⟩, hk.2⟩)) hg hat)
            have n4_ := Aside0.mk (hb)
            have n5_ := Aside0.mk (ho)
            clear HO448
            clear BK453
            clear HO460
            clear HO465
            clear HB
            clear HO470
            have HO448 := n0_
            have BK453 := n1_
            have HO460 := n2_
            have HO465 := n3_
            have HB := n4_
            have HO473 := n5_
            clear n0_ n1_ n2_ n3_ n4_ n5_
            clear ho hb hg hat
            obtain ⟨Ao41, co41, eo41⟩ := Kd.R_slice HO473.out
            (first | subst eo41 | (injection eo41 with f1_ f2_ f3_; have f4_ := f1_.symm; have f5_ := f3_.symm; clear f1_ f2_ f3_; subst f4_; subst f5_))
            refine hK.out _ _ ⟨(blk_cell BK453.out 0).trans rfl, (blk_cell BK453.out 1).trans rfl, (blk_cell BK453.out 2).trans rfl, (blk_cell BK453.out 3).trans rfl⟩ (fun hHeld => ?_)
            clear hK K
            refine norm_ (a' := ?_) ?_ ?_
            rotate_left
            ·show Act.put _ (some 44) _ = _
             simp only [Act.put, List.setIfInBounds_toArray, List.set_cons_zero, List.set_cons_succ, i64_w, i32_w]
             rfl
            refine one_ (i := 4) (N := some 46) #[Y,Y,Y,Y,Y,Z,Z,Z,Z,Z] rfl rfl (one_of HT_.out (by kernel_rfl)) (by decide) (fun K hK => ?_)
            refine goes_ Try.func52 (by kernel_rfl) rfl #[.slice Ao41 y471.length co41, .agg #[.bool t449, .int .i64 t450, .bool t451, .bool t452]] (by rfl) rfl rfl (by (try simp only [List.map_toArray, List.map_cons, List.map_nil]); first | done | rfl | (simp only [List.length_drop, List.length_take]; rfl)) ?_
            with_reducible refine (impl_LevelsBack.calls k _ _ y471 t449 t450 t451 t452 t474 true _ ?side1 ?side2 A13.out).mono ?_
            (case side1 => repeat (first | exact (Kd.R_reads' HO473.out).2.2 | (with_reducible refine Kd.C_alloc ?_ _) | (with_reducible refine Kd.C_drewN ?_ _) | (with_reducible refine Kd.C_drew ?_)))
            (case side2 => exact (Kd.R_reads' HO473.out).2.1)
            rintro e w42 ⟨v475, rfl, ho0, hb⟩
            refine ⟨_, rfl, ?_⟩
            have n0_ := Aside0.mk (Kd.R_elder' (by (with_reducible repeat (first | apply Kd.R_alloc | apply Kd.R_drewN | apply Kd.R_drew)); exact HO448.out) (Kd.R_base ho0) hb)
            have n1_ := Aside0.mk (Kd.R_elder' (by (with_reducible repeat (first | apply Kd.R_alloc | apply Kd.R_drewN | apply Kd.R_drew)); exact HO460.out) (Kd.R_base ho0) hb)
            have n2_ := Aside0.mk (Kd.R_elder' (by (with_reducible repeat (first | apply Kd.R_alloc | apply Kd.R_drewN | apply Kd.R_drew)); exact HO465.out) (Kd.R_base ho0) hb)
            have n3_ := Aside0.mk (Kd.R_elder' (by (with_reducible repeat (first | apply Kd.R_alloc | apply Kd.R_drewN | apply Kd.R_drew)); exact HO473.out) (Kd.R_base ho0) hb)
            have n4_ := Aside0.mk (Kd.R_lower (Kd.R_new' (Kd.R_new' (Kd.R_new' (Kd.R_new' ho0 (Kd.R_lt (by (with_reducible repeat (first | apply Kd.R_alloc | apply Kd.R_drewN | apply Kd.R_drew)); exact HO448.out))) (Kd.R_lt (by (with_reducible repeat (first | apply Kd.R_alloc | apply Kd.R_drewN | apply Kd.R_drew)); exact HO460.out))) (Kd.R_lt (by (with_reducible repeat (first | apply Kd.R_alloc | apply Kd.R_drewN | apply Kd.R_drew)); exact HO465.out))) (Kd.R_lt (by (with_reducible repeat (first | apply Kd.R_alloc | apply Kd.R_drewN | apply Kd.R_drew)); exact HO473.out))) (below_size (by repeat (first | (with_reducible first | exact HB.out | apply below_alloc | apply pw_below_drewN | apply below_drew1 | refine below_set ?_ GE453.out) | exact HB.out))))
            have n5_ := Aside0.mk (blk_below (g := gb453) (o := .cells #[.bool t449, .int .i64 t450, .bool t451, .bool t452] 40 (0, 0)) (by (with_reducible repeat (first | refine blk_drewN ?_ _ | refine blk_drew ?_ | refine blk_alloc ?_ _)); exact BK453.out) hb)
            have n6_ := Aside0.mk (below_step (by repeat (first | (with_reducible first | exact HB.out | apply below_alloc | apply pw_below_drewN | apply below_drew1 | refine below_set ?_ GE453.out) | exact HB.out)) hb)
            clear HO448
            clear HO460
            clear HO465
            clear HO473
            clear BK453
            clear HB
            have HO448 := n0_
            have HO460 := n1_
            have HO465 := n2_
            have HO473 := n3_
            have HO476 := n4_
            have BK453 := n5_
            have HB := n6_
            clear n0_ n1_ n2_ n3_ n4_ n5_ n6_
            (try clear hb)
            (try clear hb2)
            (try clear hk)
            (try clear hi)
            (try clear ho0)
            refine hK.out _ _ ⟨(blk_cell BK453.out 0).trans rfl, (blk_cell BK453.out 1).trans rfl, (blk_cell BK453.out 2).trans rfl, (blk_cell BK453.out 3).trans rfl⟩ (fun hHeld => ?_)
            clear hK K
            refine norm_ (a' := ?_) ?_ ?_
            rotate_left
            ·show Act.put _ (some 46) _ = _
             simp only [Act.put, List.setIfInBounds_toArray, List.set_cons_zero, List.set_cons_succ, i64_w, i32_w]
             rfl
            refine pure_ (i := 5) (N := some 41) (v := ?_) (a' := ?_) #[Y,Y,Y,Y,Y,Y,Z,Z,Z,Z] rfl rfl (any_of HT_.out (by kernel_rfl)) (fun _ _ _ h => h) (Or.inl ⟨by rfl, ?_⟩) ?_ ?_
            rotate_left
            ·intro w'
             go_simp
             with_reducible rfl
            rotate_left
            ·simp only [Act.put, List.setIfInBounds_toArray, List.set_cons_zero, List.set_cons_succ, i64_w, i32_w]
             rfl
            refine pure_ (i := 6) (N := some 47) (v := ?_) (a' := ?_) #[Y,Y,Y,Y,Y,Y,Y,Z,Z,Z] rfl rfl (any_of HT_.out (by kernel_rfl)) (fun _ _ _ h => h) (Or.inl ⟨by rfl, ?_⟩) ?_ ?_
            rotate_left
            ·intro w'
             go_simp
             with_reducible rfl
            rotate_left
            ·simp only [Act.put, List.setIfInBounds_toArray, List.set_cons_zero, List.set_cons_succ, i64_w, i32_w]
             rfl
            refine pure_ (i := 7) (N := some 48) (v := ?_) (a' := ?_) #[Y,Y,Y,Y,Y,Y,Y,Y,Z,Z] rfl rfl (any_of HT_.out (by kernel_rfl)) (fun _ _ _ h => h) (Or.inl ⟨by rfl, ?_⟩) ?_ ?_
            rotate_left
            ·intro w'
             go_simp
             with_reducible rfl
            rotate_left
            ·simp only [Act.put, List.setIfInBounds_toArray, List.set_cons_zero, List.set_cons_succ, i64_w, i32_w]
             rfl
            refine pure_ (i := 8) (N := some 11) (v := ?_) (a' := ?_) #[Y,Y,Y,Y,Y,Y,Y,Y,Y,Z] rfl rfl (any_of HT_.out (by kernel_rfl)) (fun _ _ _ h => h) (Or.inl ⟨by rfl, ?_⟩) ?_ ?_
            rotate_left
            ·intro w'
             go_simp
             with_reducible rfl
            rotate_left
            ·simp only [Act.put, List.setIfInBounds_toArray, List.set_cons_zero, List.set_cons_succ, i64_w, i32_w]
             rfl
            refine pure_ (i := 9) (N := some 12) (v := ?_) (a' := ?_) #[Y,Y,Y,Y,Y,Y,Y,Y,Y,Y] rfl rfl (any_of HT_.out (by kernel_rfl)) (fun _ _ _ h => h) (Or.inl ⟨by rfl, ?_⟩) ?_ ?_
            rotate_left
            ·intro w'
             go_simp
             with_reducible rfl
            rotate_left
            ·simp only [Act.put, List.setIfInBounds_toArray, List.set_cons_zero, List.set_cons_succ, i64_w, i32_w]
             rfl
            refine done_ (done_of HT_.out (by kernel_rfl)) ?_
            try go_wp2_with (first | (go_at_call 19; (with_reducible refine (laws_sameInts.calls k _ _ t463 _ _ t446 true _ ?side1 ?side2 ?side3 ?side4 A17.out).mono ?_); (case side1 => repeat (first | exact (Kd.R_reads' HO465.out).2.2 | (with_reducible refine Kd.C_alloc ?_ _) | (with_reducible refine Kd.C_drewN ?_ _) | (with_reducible refine Kd.C_drew ?_))); (case side2 => exact (Kd.R_reads' HO465.out).2.1); (case side3 => repeat (first | exact (Kd.R_reads' HO448.out).2.2 | (with_reducible refine Kd.C_alloc ?_ _) | (with_reducible refine Kd.C_drewN ?_ _) | (with_reducible refine Kd.C_drew ?_))); (case side4 => exact (Kd.R_reads' HO448.out).2.1); rintro e w' ⟨rfl, ⟨nd, rfl⟩⟩; obtain ⟨Ao43, co43, eo43⟩ := Kd.R_slice HO476.out; subst eo43; have hcz44_0 : w42.cell? ⟨gb453, 0, none⟩ = some (.bool t449) := (blk_cell BK453.out 0).trans rfl; have hcz44_1 : w42.cell? ⟨gb453, 1, none⟩ = some (.int .i64 t450) := (blk_cell BK453.out 1).trans rfl; have hcz44_2 : w42.cell? ⟨gb453, 2, none⟩ = some (.bool t451) := (blk_cell BK453.out 2).trans rfl; have hcz44_3 : w42.cell? ⟨gb453, 3, none⟩ = some (.bool t452) := (blk_cell BK453.out 3).trans rfl; have hfz44_0 := blk_frozen BK453.out 0; have hfz44_1 := blk_frozen BK453.out 1; have hfz44_2 := blk_frozen BK453.out 2; have hfz44_3 := blk_frozen BK453.out 3) | (go_at_call 58; (with_reducible refine (impl_CondOk.calls t449 t450 t451 t452 t479 _ A21.out).mono ?_); rintro e w45 ⟨rfl, hb⟩; have n0_ := Aside0.mk (Kd.R_below (by (with_reducible repeat (first | apply Kd.R_alloc | apply Kd.R_drewN | apply Kd.R_drew)); exact HO448.out) hb); have n1_ := Aside0.mk (Kd.R_below (by (with_reducible repeat (first | apply Kd.R_alloc | apply Kd.R_drewN | apply Kd.R_drew)); exact HO460.out) hb); have n2_ := Aside0.mk (Kd.R_below (by (with_reducible repeat (first | apply Kd.R_alloc | apply Kd.R_drewN | apply Kd.R_drew)); exact HO465.out) hb); have n3_ := Aside0.mk (Kd.R_below (by (with_reducible repeat (first | apply Kd.R_alloc | apply Kd.R_drewN | apply Kd.R_drew)); exact HO473.out) hb); have n4_ := Aside0.mk (Kd.R_below (by (with_reducible repeat (first | apply Kd.R_alloc | apply Kd.R_drewN | apply Kd.R_drew)); exact HO476.out) hb); have n5_ := Aside0.mk (blk_below (g := gb453) (o := .cells #[.bool t449, .int .i64 t450, .bool t451, .bool t452] 40 (0, 0)) (by (with_reducible repeat (first | refine blk_drewN ?_ _ | refine blk_drew ?_ | refine blk_alloc ?_ _)); exact BK453.out) hb); have n6_ := Aside0.mk (below_step (by repeat (first | (with_reducible first | exact HB.out | apply below_alloc | apply pw_below_drewN | apply below_drew1 | refine below_set ?_ GE453.out) | exact HB.out)) hb); clear HO448; clear HO460; clear HO465; clear HO473; clear HO476; clear BK453; clear HB; have HO448 := n0_; have HO460 := n1_; have HO465 := n2_; have HO473 := n3_; have HO476 := n4_; have BK453 := n5_; have HB := n6_; clear n0_ n1_ n2_ n3_ n4_ n5_ n6_; (try clear hb); (try clear hb2); (try clear hk); (try clear hi)))
            go_ret
            exact ⟨by first | rfl | (simp [errW_none, errW_some] <;> rfl) | (simp [*, errW_none, errW_some] <;> rfl), by repeat (first | (with_reducible first | exact HB.out | apply below_alloc | apply pw_below_drewN | apply below_drew1 | refine below_set ?_ GE453.out) | exact HB.out)⟩
           ·rw [if_neg c20] at H
            have c20b0 : ((t474.length : Int) == 64) = false := beq_eq_false_iff_ne.mpr c20
            have c20b1 : ((t474.length : Int) != 64) = true := bne_iff_ne.mpr c20
            exact absurd H (by simp)
          ·rw [if_neg c19] at H
           have c19b0 : (t466 == (wrap64 ((t454.size : Int) + (t461.size : Int)))) = false := beq_eq_false_iff_ne.mpr c19
           have c19b1 : (t466 != (wrap64 ((t454.size : Int) + (t461.size : Int)))) = true := bne_iff_ne.mpr c19
           exact absurd H (by simp)
         ·replace c18 := Bool.eq_false_iff.mpr c18
          subst c18
          have H1 : (some false) = some true := by rw [if_neg (show ¬ (false = true) by decide)] at H; exact H
          clear H
          have H := H1
          clear H1
          exact absurd H (by simp)
        ·replace c16 := Bool.eq_false_iff.mpr c16
         subst c16
         have H1 : (some false) = some true := by rw [if_neg (show ¬ (false = true) by decide)] at H; exact H
         clear H
         have H := H1
         clear H1
         exact absurd H (by simp)
       ·replace c15 := Bool.eq_false_iff.mpr c15
        subst c15
        have H1 : (some false) = some true := by rw [if_neg (show ¬ (false = true) by decide)] at H; exact H
        clear H
        have H := H1
        clear H1
        exact absurd H (by simp)
      ·replace c14 := Bool.eq_false_iff.mpr c14
       subst c14
       have H1 : (some false) = some true := by rw [if_neg (show ¬ (false = true) by decide)] at H; exact H
       clear H
       have H := H1
       clear H1
       exact absurd H (by simp)
     ·rw [if_neg c12] at H
      exact absurd H (by simp)
    ·rw [if_neg c10] at H
     exact absurd H (by simp)
   ·rw [if_neg c9] at H
    exact absurd H (by simp)
  ·rw [if_neg c7] at H
   exact absurd H (by simp)

/-- The pure statement of laws_FnLevelRows. -/
def laws_FnLevelRows.Pure : Prop := ∀ (l0 : List Int), l0.length ≤ maxLen → l0.length * 1 ≤ 140737488351232 → (∀ x ∈ l0, (Lit.int .u8 x).wf = true) → ∃ k, laws_FnLevelRows.f k l0 = some true
theorem laws_FnLevelRows.walk (P : laws_FnLevelRows.Pure) (a0 : Option Addr) (len0 cap0 : Nat) (z0 : List Int) (w : World) (w0 : (a0 = none ∧ len0 = 0 ∧ cap0 = 0 ∧ z0 = []) ∨ ∃ x, a0 = some x ∧ len0 ≤ cap0 ∧ cap0 ≤ maxLen ∧ z0.length = cap0 ∧ (∀ i, i < z0.length → w.cell? (x.add i) = some (.int .u8 (z0.getD i 0))) ∧ ∀ n ∈ z0, (Lit.int .u8 n).wf = true) (y0 : len0 * 1 ≤ 140737488351232) :
  Calls Try.prog 14 #[.slice a0 len0 cap0] w fun e w' => e = .returned (.bool true) ∧ Below w.heap.size w w' := by
 obtain ⟨l0, rfl, hr0, hm0, hw0, hc0⟩ := ReadsInt.ofRowC w0
 obtain ⟨k, h⟩ := P l0 hm0 y0 hw0
 refine (laws_FnLevelRows.calls k _ _ l0 w (Kd.C_of_reads (d := (0 : Int)) (h1 := fun _ => rfl) hr0) hc0 h).mono ?_
 rintro e w' ⟨rfl, hd⟩
 exact ⟨rfl, hd⟩

end Go.Proofs.Ytlmlkoalicjlhaa.QFnLevelRows
