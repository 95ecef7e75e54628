/- What the law reaches, as plain functions, each with the proof that its call comes to its answer: written by a program for this claim. -/
import Derived.Test.YtnaccgommclhaaaQFnSkipsx0
import Derived.Test.YtnaccgommclhaaaQFnSkipsx2
import Derived.Test.YtnaccgommclhaaaQFnSkipsx6
namespace Go.Proofs.Ytnaccgommclhaaa.QFnSkips
open Go.RowKit Go.Proofs.YtnaccgommclhaaaW.PrintWords Go.Proofs.YtnaccgommclhaaaW.PrintLast Go.Proofs.YtnaccgommclhaaaW.PrintMore Go.Proofs.YtnaccgommclhaaaV
attribute [local go_sem] max2_int min2_int max_two min_two max_three min_three max_four min_four   -- for this text's walks alone
set_option linter.unusedVariables false
set_option linter.unusedSimpArgs false

def impl_SquareDots.f (k : Nat) (a0_0 : Int) (a0_1 : Int) (a0_2 : ByteArray) (a1_0 : Int) (a1_1 : Int) (a1_2 : ByteArray) (a2 : Int) (a3 : Int) (a4_0 : Bool) (a4_1 : Int) (a4_2 : Bool) (a4_3 : Bool) (a5 : Int) (a6 : Int) (a7_0 : Int) (a7_1 : Int) (a7_2 : Int) (a7_3 : Int) (l7_4 : List Int) : Option (List Int × Bool) := (impl_PicOk.f a0_0 a0_1 a0_2).bind fun t542 => (if t542 = true then ((impl_Pic_isSquare.f a0_0 a0_1 a0_2 a5 a6).bind fun t543 => (if t543 = true then ((impl_within.f a2 0 256).bind fun t544 => (if t544 = true then ((impl_within.f a3 0 256).bind fun t545 => (if t545 = true then ((impl_SquareOk.f a7_0 a7_1 a7_2 a7_3 l7_4).bind fun t546 => (if t546 = true then ((impl_CondOk.f a4_0 a4_1 a4_2 a4_3).bind fun t547 => (if t547 = true then ((impl_Square_let.f a7_0 a7_1 a7_2 a7_3 l7_4 a4_0 a4_1 a4_2 a4_3).bind fun t548 => (if t548 = true then (if a7_0 = 2 then (none) else ((impl_PicOk.f a1_0 a1_1 a1_2).bind fun t549 => (if t549 = true then (if a7_0 = 0 then ((impl_Pic_block.f k a1_0 a1_1 a1_2 (wrap64 (a2 + a5)) (wrap64 (a3 + a6))).bind fun t550 => (some (t550, true))) else (none)) else (none)))) else (none))) else (none))) else (none))) else (none))) else (none))) else (none))) else (none))
theorem impl_SquareDots.mono : ∀ a0 a1 a2 a3 a4 a5 a6 a7 a8 a9 a10 a11 a12 a13 a14 a15 a16 a17 a18 k, LeO (impl_SquareDots.f k a0 a1 a2 a3 a4 a5 a6 a7 a8 a9 a10 a11 a12 a13 a14 a15 a16 a17 a18) (impl_SquareDots.f (k + 1) a0 a1 a2 a3 a4 a5 a6 a7 a8 a9 a10 a11 a12 a13 a14 a15 a16 a17 a18) := by
 intro a0 a1 a2 a3 a4 a5 a6 a7 a8 a9 a10 a11 a12 a13 a14 a15 a16 a17 a18 k
 unfold impl_SquareDots.f
 repeat' first
   | (with_reducible exact impl_Pic_block.mono _ _ _ _ _ _)
   | (with_reducible exact LeO.refl _)
   | (with_reducible exact LeO.none _)
   | (with_reducible refine LeO.ite ?_ ?_)
   | (with_reducible refine LeO.bind ?_ (fun _ => ?_))
   | exact impl_Pic_block.mono _ _ _ _ _ _
   | exact LeO.none _
   | refine LeO.ite ?_ ?_
   | refine LeO.bind ?_ (fun _ => ?_)
set_option maxHeartbeats 8000000 in
set_option maxRecDepth 100000 in
theorem impl_SquareDots.calls (k : Nat) (a0_0 : Int) (a0_1 : Int) (a0_2 : ByteArray) (a1_0 : Int) (a1_1 : Int) (a1_2 : ByteArray) (a2 : Int) (a3 : Int) (a4_0 : Bool) (a4_1 : Int) (a4_2 : Bool) (a4_3 : Bool) (a5 : Int) (a6 : Int) (a7_0 : Int) (a7_1 : Int) (a7_2 : Int) (a7_3 : Int) (A7_4 : Option Addr) (c7_4 : Nat) (l7_4 : List Int) (r1 : List Int) (r2 : Bool) (w : World) (hr7_4 : Kd.C (Kd.int .i64) w A7_4 l7_4.length l7_4) (hc7_4 : l7_4.length ≤ c7_4) (h : impl_SquareDots.f k a0_0 a0_1 a0_2 a1_0 a1_1 a1_2 a2 a3 a4_0 a4_1 a4_2 a4_3 a5 a6 a7_0 a7_1 a7_2 a7_3 l7_4 = some (r1, r2)) :
  Calls Try.prog 33 #[.agg #[.int .i64 a0_0, .int .i64 a0_1, .string a0_2], .agg #[.int .i64 a1_0, .int .i64 a1_1, .string a1_2], .int .i64 a2, .int .i64 a3, .agg #[.bool a4_0, .int .i64 a4_1, .bool a4_2, .bool a4_3], .int .i64 a5, .int .i64 a6, .agg #[.int .i64 a7_0, .int .i64 a7_1, .int .i64 a7_2, .int .i64 a7_3, .slice A7_4 l7_4.length c7_4]] w fun e w' => ∃ v0_ : Value, e = .returned (.tuple #[v0_, .bool r2]) ∧ Kd.R (Kd.int .i64) 3 w' w.heap.size (fun _ => True) v0_ r1 ∧ Below w.heap.size w w' := by
 have hu25 := Try.underlying25
 have hu50 := Try.underlying50
 have hu63 := Try.underlying63
 have hu101 := Try.underlying101
 have HR7_4 := Aside0.mk hr7_4
 have HC7_4 := Aside0.mk hc7_4
 clear hr7_4 hc7_4
 have HB := Aside0.mk (Below.refl w.heap.size w)
 have H : ((impl_PicOk.f a0_0 a0_1 a0_2).bind fun t542 => (if t542 = true then ((impl_Pic_isSquare.f a0_0 a0_1 a0_2 a5 a6).bind fun t543 => (if t543 = true then ((impl_within.f a2 0 256).bind fun t544 => (if t544 = true then ((impl_within.f a3 0 256).bind fun t545 => (if t545 = true then ((impl_SquareOk.f a7_0 a7_1 a7_2 a7_3 l7_4).bind fun t546 => (if t546 = true then ((impl_CondOk.f a4_0 a4_1 a4_2 a4_3).bind fun t547 => (if t547 = true then ((impl_Square_let.f a7_0 a7_1 a7_2 a7_3 l7_4 a4_0 a4_1 a4_2 a4_3).bind fun t548 => (if t548 = true then (if a7_0 = 2 then (none) else ((impl_PicOk.f a1_0 a1_1 a1_2).bind fun t549 => (if t549 = true then (if a7_0 = 0 then ((impl_Pic_block.f k a1_0 a1_1 a1_2 (wrap64 (a2 + a5)) (wrap64 (a3 + a6))).bind fun t550 => (some (t550, true))) else (none)) else (none)))) else (none))) else (none))) else (none))) else (none))) else (none))) else (none))) else (none))) = some (r1, r2) := h
 clear h
 replace H := Option.bind_eq_some_iff.mp H
 obtain ⟨t542, A90, H⟩ := H
 replace H : (if t542 = true then ((impl_Pic_isSquare.f a0_0 a0_1 a0_2 a5 a6).bind fun t543 => (if t543 = true then ((impl_within.f a2 0 256).bind fun t544 => (if t544 = true then ((impl_within.f a3 0 256).bind fun t545 => (if t545 = true then ((impl_SquareOk.f a7_0 a7_1 a7_2 a7_3 l7_4).bind fun t546 => (if t546 = true then ((impl_CondOk.f a4_0 a4_1 a4_2 a4_3).bind fun t547 => (if t547 = true then ((impl_Square_let.f a7_0 a7_1 a7_2 a7_3 l7_4 a4_0 a4_1 a4_2 a4_3).bind fun t548 => (if t548 = true then (if a7_0 = 2 then (none) else ((impl_PicOk.f a1_0 a1_1 a1_2).bind fun t549 => (if t549 = true then (if a7_0 = 0 then ((impl_Pic_block.f k a1_0 a1_1 a1_2 (wrap64 (a2 + a5)) (wrap64 (a3 + a6))).bind fun t550 => (some (t550, true))) else (none)) else (none)))) else (none))) else (none))) else (none))) else (none))) else (none))) else (none))) else (none)) = some (r1, r2) := H
 have A9 := Aside0.mk A90
 clear A90
 by_cases c10 : t542 = true
 ·subst c10
  have H1 : ((impl_Pic_isSquare.f a0_0 a0_1 a0_2 a5 a6).bind fun t543 => (if t543 = true then ((impl_within.f a2 0 256).bind fun t544 => (if t544 = true then ((impl_within.f a3 0 256).bind fun t545 => (if t545 = true then ((impl_SquareOk.f a7_0 a7_1 a7_2 a7_3 l7_4).bind fun t546 => (if t546 = true then ((impl_CondOk.f a4_0 a4_1 a4_2 a4_3).bind fun t547 => (if t547 = true then ((impl_Square_let.f a7_0 a7_1 a7_2 a7_3 l7_4 a4_0 a4_1 a4_2 a4_3).bind fun t548 => (if t548 = true then (if a7_0 = 2 then (none) else ((impl_PicOk.f a1_0 a1_1 a1_2).bind fun t549 => (if t549 = true then (if a7_0 = 0 then ((impl_Pic_block.f k a1_0 a1_1 a1_2 (wrap64 (a2 + a5)) (wrap64 (a3 + a6))).bind fun t550 => (some (t550, true))) else (none)) else (none)))) else (none))) else (none))) else (none))) else (none))) else (none))) else (none))) = some (r1, r2) := by rw [if_pos rfl] at H; exact H
  clear H
  have H := H1
  clear H1
  replace H := Option.bind_eq_some_iff.mp H
  obtain ⟨t543, A110, H⟩ := H
  replace H : (if t543 = true then ((impl_within.f a2 0 256).bind fun t544 => (if t544 = true then ((impl_within.f a3 0 256).bind fun t545 => (if t545 = true then ((impl_SquareOk.f a7_0 a7_1 a7_2 a7_3 l7_4).bind fun t546 => (if t546 = true then ((impl_CondOk.f a4_0 a4_1 a4_2 a4_3).bind fun t547 => (if t547 = true then ((impl_Square_let.f a7_0 a7_1 a7_2 a7_3 l7_4 a4_0 a4_1 a4_2 a4_3).bind fun t548 => (if t548 = true then (if a7_0 = 2 then (none) else ((impl_PicOk.f a1_0 a1_1 a1_2).bind fun t549 => (if t549 = true then (if a7_0 = 0 then ((impl_Pic_block.f k a1_0 a1_1 a1_2 (wrap64 (a2 + a5)) (wrap64 (a3 + a6))).bind fun t550 => (some (t550, true))) else (none)) else (none)))) else (none))) else (none))) else (none))) else (none))) else (none))) else (none)) = some (r1, r2) := H
  have A11 := Aside0.mk A110
  clear A110
  by_cases c12 : t543 = true
  ·subst c12
   have H1 : ((impl_within.f a2 0 256).bind fun t544 => (if t544 = true then ((impl_within.f a3 0 256).bind fun t545 => (if t545 = true then ((impl_SquareOk.f a7_0 a7_1 a7_2 a7_3 l7_4).bind fun t546 => (if t546 = true then ((impl_CondOk.f a4_0 a4_1 a4_2 a4_3).bind fun t547 => (if t547 = true then ((impl_Square_let.f a7_0 a7_1 a7_2 a7_3 l7_4 a4_0 a4_1 a4_2 a4_3).bind fun t548 => (if t548 = true then (if a7_0 = 2 then (none) else ((impl_PicOk.f a1_0 a1_1 a1_2).bind fun t549 => (if t549 = true then (if a7_0 = 0 then ((impl_Pic_block.f k a1_0 a1_1 a1_2 (wrap64 (a2 + a5)) (wrap64 (a3 + a6))).bind fun t550 => (some (t550, true))) else (none)) else (none)))) else (none))) else (none))) else (none))) else (none))) else (none))) = some (r1, r2) := by rw [if_pos rfl] at H; exact H
   clear H
   have H := H1
   clear H1
   replace H := Option.bind_eq_some_iff.mp H
   obtain ⟨t544, A130, H⟩ := H
   replace H : (if t544 = true then ((impl_within.f a3 0 256).bind fun t545 => (if t545 = true then ((impl_SquareOk.f a7_0 a7_1 a7_2 a7_3 l7_4).bind fun t546 => (if t546 = true then ((impl_CondOk.f a4_0 a4_1 a4_2 a4_3).bind fun t547 => (if t547 = true then ((impl_Square_let.f a7_0 a7_1 a7_2 a7_3 l7_4 a4_0 a4_1 a4_2 a4_3).bind fun t548 => (if t548 = true then (if a7_0 = 2 then (none) else ((impl_PicOk.f a1_0 a1_1 a1_2).bind fun t549 => (if t549 = true then (if a7_0 = 0 then ((impl_Pic_block.f k a1_0 a1_1 a1_2 (wrap64 (a2 + a5)) (wrap64 (a3 + a6))).bind fun t550 => (some (t550, true))) else (none)) else (none)))) else (none))) else (none))) else (none))) else (none))) else (none)) = some (r1, r2) := H
   have A13 := Aside0.mk A130
   clear A130
   by_cases c14 : t544 = true
   ·subst c14
    have H1 : ((impl_within.f a3 0 256).bind fun t545 => (if t545 = true then ((impl_SquareOk.f a7_0 a7_1 a7_2 a7_3 l7_4).bind fun t546 => (if t546 = true then ((impl_CondOk.f a4_0 a4_1 a4_2 a4_3).bind fun t547 => (if t547 = true then ((impl_Square_let.f a7_0 a7_1 a7_2 a7_3 l7_4 a4_0 a4_1 a4_2 a4_3).bind fun t548 => (if t548 = true then (if a7_0 = 2 then (none) else ((impl_PicOk.f a1_0 a1_1 a1_2).bind fun t549 => (if t549 = true then (if a7_0 = 0 then ((impl_Pic_block.f k a1_0 a1_1 a1_2 (wrap64 (a2 + a5)) (wrap64 (a3 + a6))).bind fun t550 => (some (t550, true))) else (none)) else (none)))) else (none))) else (none))) else (none))) else (none))) = some (r1, r2) := by rw [if_pos rfl] at H; exact H
    clear H
    have H := H1
    clear H1
    replace H := Option.bind_eq_some_iff.mp H
    obtain ⟨t545, A150, H⟩ := H
    replace H : (if t545 = true then ((impl_SquareOk.f a7_0 a7_1 a7_2 a7_3 l7_4).bind fun t546 => (if t546 = true then ((impl_CondOk.f a4_0 a4_1 a4_2 a4_3).bind fun t547 => (if t547 = true then ((impl_Square_let.f a7_0 a7_1 a7_2 a7_3 l7_4 a4_0 a4_1 a4_2 a4_3).bind fun t548 => (if t548 = true then (if a7_0 = 2 then (none) else ((impl_PicOk.f a1_0 a1_1 a1_2).bind fun t549 => (if t549 = true then (if a7_0 = 0 then ((impl_Pic_block.f k a1_0 a1_1 a1_2 (wrap64 (a2 + a5)) (wrap64 (a3 + a6))).bind fun t550 => (some (t550, true))) else (none)) else (none)))) else (none))) else (none))) else (none))) else (none)) = some (r1, r2) := H
    have A15 := Aside0.mk A150
    clear A150
    by_cases c16 : t545 = true
    ·subst c16
     have H1 : ((impl_SquareOk.f a7_0 a7_1 a7_2 a7_3 l7_4).bind fun t546 => (if t546 = true then ((impl_CondOk.f a4_0 a4_1 a4_2 a4_3).bind fun t547 => (if t547 = true then ((impl_Square_let.f a7_0 a7_1 a7_2 a7_3 l7_4 a4_0 a4_1 a4_2 a4_3).bind fun t548 => (if t548 = true then (if a7_0 = 2 then (none) else ((impl_PicOk.f a1_0 a1_1 a1_2).bind fun t549 => (if t549 = true then (if a7_0 = 0 then ((impl_Pic_block.f k a1_0 a1_1 a1_2 (wrap64 (a2 + a5)) (wrap64 (a3 + a6))).bind fun t550 => (some (t550, true))) else (none)) else (none)))) else (none))) else (none))) else (none))) = some (r1, r2) := by rw [if_pos rfl] at H; exact H
     clear H
     have H := H1
     clear H1
     replace H := Option.bind_eq_some_iff.mp H
     obtain ⟨t546, A170, H⟩ := H
     replace H : (if t546 = true then ((impl_CondOk.f a4_0 a4_1 a4_2 a4_3).bind fun t547 => (if t547 = true then ((impl_Square_let.f a7_0 a7_1 a7_2 a7_3 l7_4 a4_0 a4_1 a4_2 a4_3).bind fun t548 => (if t548 = true then (if a7_0 = 2 then (none) else ((impl_PicOk.f a1_0 a1_1 a1_2).bind fun t549 => (if t549 = true then (if a7_0 = 0 then ((impl_Pic_block.f k a1_0 a1_1 a1_2 (wrap64 (a2 + a5)) (wrap64 (a3 + a6))).bind fun t550 => (some (t550, true))) else (none)) else (none)))) else (none))) else (none))) else (none)) = some (r1, r2) := H
     have A17 := Aside0.mk A170
     clear A170
     by_cases c18 : t546 = true
     ·subst c18
      have H1 : ((impl_CondOk.f a4_0 a4_1 a4_2 a4_3).bind fun t547 => (if t547 = true then ((impl_Square_let.f a7_0 a7_1 a7_2 a7_3 l7_4 a4_0 a4_1 a4_2 a4_3).bind fun t548 => (if t548 = true then (if a7_0 = 2 then (none) else ((impl_PicOk.f a1_0 a1_1 a1_2).bind fun t549 => (if t549 = true then (if a7_0 = 0 then ((impl_Pic_block.f k a1_0 a1_1 a1_2 (wrap64 (a2 + a5)) (wrap64 (a3 + a6))).bind fun t550 => (some (t550, true))) else (none)) else (none)))) else (none))) else (none))) = some (r1, r2) := by rw [if_pos rfl] at H; exact H
      clear H
      have H := H1
      clear H1
      replace H := Option.bind_eq_some_iff.mp H
      obtain ⟨t547, A190, H⟩ := H
      replace H : (if t547 = true then ((impl_Square_let.f a7_0 a7_1 a7_2 a7_3 l7_4 a4_0 a4_1 a4_2 a4_3).bind fun t548 => (if t548 = true then (if a7_0 = 2 then (none) else ((impl_PicOk.f a1_0 a1_1 a1_2).bind fun t549 => (if t549 = true then (if a7_0 = 0 then ((impl_Pic_block.f k a1_0 a1_1 a1_2 (wrap64 (a2 + a5)) (wrap64 (a3 + a6))).bind fun t550 => (some (t550, true))) else (none)) else (none)))) else (none))) else (none)) = some (r1, r2) := H
      have A19 := Aside0.mk A190
      clear A190
      by_cases c20 : t547 = true
      ·subst c20
       have H1 : ((impl_Square_let.f a7_0 a7_1 a7_2 a7_3 l7_4 a4_0 a4_1 a4_2 a4_3).bind fun t548 => (if t548 = true then (if a7_0 = 2 then (none) else ((impl_PicOk.f a1_0 a1_1 a1_2).bind fun t549 => (if t549 = true then (if a7_0 = 0 then ((impl_Pic_block.f k a1_0 a1_1 a1_2 (wrap64 (a2 + a5)) (wrap64 (a3 + a6))).bind fun t550 => (some (t550, true))) else (none)) else (none)))) else (none))) = some (r1, r2) := by rw [if_pos rfl] at H; exact H
       clear H
       have H := H1
       clear H1
       replace H := Option.bind_eq_some_iff.mp H
       obtain ⟨t548, A210, H⟩ := H
       replace H : (if t548 = true then (if a7_0 = 2 then (none) else ((impl_PicOk.f a1_0 a1_1 a1_2).bind fun t549 => (if t549 = true then (if a7_0 = 0 then ((impl_Pic_block.f k a1_0 a1_1 a1_2 (wrap64 (a2 + a5)) (wrap64 (a3 + a6))).bind fun t550 => (some (t550, true))) else (none)) else (none)))) else (none)) = some (r1, r2) := H
       have A21 := Aside0.mk A210
       clear A210
       by_cases c22 : t548 = true
       ·subst c22
        have H1 : (if a7_0 = 2 then (none) else ((impl_PicOk.f a1_0 a1_1 a1_2).bind fun t549 => (if t549 = true then (if a7_0 = 0 then ((impl_Pic_block.f k a1_0 a1_1 a1_2 (wrap64 (a2 + a5)) (wrap64 (a3 + a6))).bind fun t550 => (some (t550, true))) else (none)) else (none)))) = some (r1, r2) := by rw [if_pos rfl] at H; exact H
        clear H
        have H := H1
        clear H1
        by_cases c23 : a7_0 = 2
        ·rw [if_pos c23] at H
         exact absurd H (by simp)
        ·rw [if_neg c23] at H
         have c23b0 : (a7_0 == 2) = false := beq_eq_false_iff_ne.mpr c23
         have c23b1 : (a7_0 != 2) = true := bne_iff_ne.mpr c23
         replace H := Option.bind_eq_some_iff.mp H
         obtain ⟨t549, A240, H⟩ := H
         replace H : (if t549 = true then (if a7_0 = 0 then ((impl_Pic_block.f k a1_0 a1_1 a1_2 (wrap64 (a2 + a5)) (wrap64 (a3 + a6))).bind fun t550 => (some (t550, true))) else (none)) else (none)) = some (r1, r2) := H
         have A24 := Aside0.mk A240
         clear A240
         by_cases c25 : t549 = true
         ·subst c25
          have H1 : (if a7_0 = 0 then ((impl_Pic_block.f k a1_0 a1_1 a1_2 (wrap64 (a2 + a5)) (wrap64 (a3 + a6))).bind fun t550 => (some (t550, true))) else (none)) = some (r1, r2) := by rw [if_pos rfl] at H; exact H
          clear H
          have H := H1
          clear H1
          by_cases c26 : a7_0 = 0
          ·rw [if_pos c26] at H
           have c26b0 : (a7_0 == 0) = true := beq_iff_eq.mpr c26
           have c26b1 : (a7_0 != 0) = false := bne_eq_false_iff_eq.mpr c26
           clear c26
           replace H := Option.bind_eq_some_iff.mp H
           obtain ⟨t550, A270, H⟩ := H
           replace H : (some (t550, true)) = some (r1, r2) := H
           have A27 := Aside0.mk A270
           clear A270
           simp only [Option.some.injEq, Prod.mk.injEq] at H
           obtain ⟨rfl, rfl⟩ := H
           go_enter Try.func33, Try.ntmps33
           go_wp2_with (first | ((with_reducible refine gate_dst (N := 8) rfl ?_); refine box_event ?hg (N := 8) ?hd (cs := #[.int .i64 a0_0, .int .i64 a0_1, .string a0_2]) (t := 25) ?hr ?_; (case hd => rfl); (case hg => rfl); (case hr => first | (go_simp; done) | (go_simp; rfl)); intro gb538 hg w28 hbox hb; have n0_ := Aside0.mk (below_step (by repeat (first | (with_reducible first | exact HB.out | apply below_alloc | apply pw_below_drewN | apply below_drew1) | exact HB.out)) hb); have n1_ := Aside0.mk (hbox); have n2_ := Aside0.mk ((by rw [hg]; exact (below_size (by repeat (first | (with_reducible first | exact HB.out | apply below_alloc | apply pw_below_drewN | apply below_drew1) | exact HB.out))) : w.heap.size ≤ gb538)); have n3_ := Aside0.mk ((by rw [hg]; exact (below_size (by repeat (first | (with_reducible first | exact HB.out | apply below_alloc | apply pw_below_drewN | apply below_drew1) | exact HB.out))) : w.heap.size ≤ gb538)); clear HB; have HB := n0_; have BK538 := n1_; have GW538 := n2_; have GE538 := n3_; clear n0_ n1_ n2_ n3_; clear hb hbox hg) | ((with_reducible refine gate_dst (N := 9) rfl ?_); refine box_event ?hg (N := 9) ?hd (cs := #[.int .i64 a1_0, .int .i64 a1_1, .string a1_2]) (t := 25) ?hr ?_; (case hd => rfl); (case hg => rfl); (case hr => first | (go_simp; done) | (go_simp; rfl)); intro gb539 hg w29 hbox hb; have n0_ := Aside0.mk (blk_below (g := gb538) (o := .cells #[.int .i64 a0_0, .int .i64 a0_1, .string a0_2] 25 (0, 0)) (by (with_reducible repeat (first | refine blk_drewN ?_ _ | refine blk_drew ?_ | refine blk_alloc ?_ _)); exact BK538.out) hb); have n1_ := Aside0.mk (below_step (by repeat (first | (with_reducible first | exact HB.out | apply below_alloc | apply pw_below_drewN | apply below_drew1 | refine below_set ?_ GE538.out) | exact HB.out)) hb); have n2_ := Aside0.mk (hbox); have n3_ := Aside0.mk ((by rw [hg]; exact (below_size (by repeat (first | (with_reducible first | exact HB.out | apply below_alloc | apply pw_below_drewN | apply below_drew1 | refine below_set ?_ GE538.out) | exact HB.out))) : w.heap.size ≤ gb539)); have n4_ := Aside0.mk ((by rw [hg]; exact (below_size (by repeat (first | (with_reducible first | exact HB.out | apply below_alloc | apply pw_below_drewN | apply below_drew1 | refine below_set ?_ GE538.out) | exact HB.out))) : w.heap.size ≤ gb539)); have n5_ := Aside0.mk ((by rw [hg]; exact Nat.ne_of_lt (blk_lt (g := gb538) (o := .cells #[.int .i64 a0_0, .int .i64 a0_1, .string a0_2] 25 (0, 0)) (by (with_reducible repeat (first | refine blk_drewN ?_ _ | refine blk_drew ?_ | refine blk_alloc ?_ _)); exact BK538.out)) : gb538 ≠ gb539)); have n6_ := Aside0.mk ((by rw [hg]; exact Nat.ne_of_gt (blk_lt (g := gb538) (o := .cells #[.int .i64 a0_0, .int .i64 a0_1, .string a0_2] 25 (0, 0)) (by (with_reducible repeat (first | refine blk_drewN ?_ _ | refine blk_drew ?_ | refine blk_alloc ?_ _)); exact BK538.out)) : gb539 ≠ gb538)); clear BK538; clear HB; have BK538 := n0_; have HB := n1_; have BK539 := n2_; have GW539 := n3_; have GE539 := n4_; have NB538_539 := n5_; have NB539_538 := n6_; clear n0_ n1_ n2_ n3_ n4_ n5_ n6_; clear hb hbox hg) | ((with_reducible refine gate_dst (N := 12) rfl ?_); refine box_event ?hg (N := 12) ?hd (cs := #[.bool a4_0, .int .i64 a4_1, .bool a4_2, .bool a4_3]) (t := 50) ?hr ?_; (case hd => rfl); (case hg => rfl); (case hr => first | (go_simp; done) | (go_simp; rfl)); intro gb540 hg w30 hbox hb; have n0_ := Aside0.mk (blk_below (g := gb538) (o := .cells #[.int .i64 a0_0, .int .i64 a0_1, .string a0_2] 25 (0, 0)) (by (with_reducible repeat (first | refine blk_drewN ?_ _ | refine blk_drew ?_ | refine blk_alloc ?_ _)); exact BK538.out) hb); have n1_ := Aside0.mk (blk_below (g := gb539) (o := .cells #[.int .i64 a1_0, .int .i64 a1_1, .string a1_2] 25 (0, 0)) (by (with_reducible repeat (first | refine blk_drewN ?_ _ | refine blk_drew ?_ | refine blk_alloc ?_ _)); exact BK539.out) hb); have n2_ := Aside0.mk (below_step (by repeat (first | (with_reducible first | exact HB.out | apply below_alloc | apply pw_below_drewN | apply below_drew1 | refine below_set ?_ GE538.out | refine below_set ?_ GE539.out) | exact HB.out)) hb); have n3_ := Aside0.mk (hbox); have n4_ := Aside0.mk ((by rw [hg]; exact (below_size (by repeat (first | (with_reducible first | exact HB.out | apply below_alloc | apply pw_below_drewN | apply below_drew1 | refine below_set ?_ GE538.out | refine below_set ?_ GE539.out) | exact HB.out))) : w.heap.size ≤ gb540)); have n5_ := Aside0.mk ((by rw [hg]; exact (below_size (by repeat (first | (with_reducible first | exact HB.out | apply below_alloc | apply pw_below_drewN | apply below_drew1 | refine below_set ?_ GE538.out | refine below_set ?_ GE539.out) | exact HB.out))) : w.heap.size ≤ gb540)); have n6_ := Aside0.mk ((by rw [hg]; exact Nat.ne_of_lt (blk_lt (g := gb538) (o := .cells #[.int .i64 a0_0, .int .i64 a0_1, .string a0_2] 25 (0, 0)) (by (with_reducible repeat (first | refine blk_drewN ?_ _ | refine blk_drew ?_ | refine blk_alloc ?_ _)); exact BK538.out)) : gb538 ≠ gb540)); have n7_ := Aside0.mk ((by rw [hg]; exact Nat.ne_of_gt (blk_lt (g := gb538) (o := .cells #[.int .i64 a0_0, .int .i64 a0_1, .string a0_2] 25 (0, 0)) (by (with_reducible repeat (first | refine blk_drewN ?_ _ | refine blk_drew ?_ | refine blk_alloc ?_ _)); exact BK538.out)) : gb540 ≠ gb538)); have n8_ := Aside0.mk ((by rw [hg]; exact Nat.ne_of_lt (blk_lt (g := gb539) (o := .cells #[.int .i64 a1_0, .int .i64 a1_1, .string a1_2] 25 (0, 0)) (by (with_reducible repeat (first | refine blk_drewN ?_ _ | refine blk_drew ?_ | refine blk_alloc ?_ _)); exact BK539.out)) : gb539 ≠ gb540)); have n9_ := Aside0.mk ((by rw [hg]; exact Nat.ne_of_gt (blk_lt (g := gb539) (o := .cells #[.int .i64 a1_0, .int .i64 a1_1, .string a1_2] 25 (0, 0)) (by (with_reducible repeat (first | refine blk_drewN ?_ _ | refine blk_drew ?_ | refine blk_alloc ?_ _)); exact BK539.out)) : gb540 ≠ gb539)); clear BK538; clear BK539; clear HB; have BK538 := n0_; have BK539 := n1_; have HB := n2_; have BK540 := n3_; have GW540 := n4_; have GE540 := n5_; have NB538_540 := n6_; have NB540_538 := n7_; have NB539_540 := n8_; have NB540_539 := n9_; clear n0_ n1_ n2_ n3_ n4_ n5_ n6_ n7_ n8_ n9_; clear hb hbox hg) | ((with_reducible refine gate_dst (N := 15) rfl ?_); refine box_event ?hg (N := 15) ?hd (cs := #[.int .i64 a7_0, .int .i64 a7_1, .int .i64 a7_2, .int .i64 a7_3, .slice A7_4 l7_4.length c7_4]) (t := 63) ?hr ?_; (case hd => rfl); (case hg => rfl); (case hr => first | (go_simp; done) | (go_simp; rfl)); intro gb541 hg w31 hbox hb; have n0_ := Aside0.mk (blk_below (g := gb538) (o := .cells #[.int .i64 a0_0, .int .i64 a0_1, .string a0_2] 25 (0, 0)) (by (with_reducible repeat (first | refine blk_drewN ?_ _ | refine blk_drew ?_ | refine blk_alloc ?_ _)); exact BK538.out) hb); have n1_ := Aside0.mk (blk_below (g := gb539) (o := .cells #[.int .i64 a1_0, .int .i64 a1_1, .string a1_2] 25 (0, 0)) (by (with_reducible repeat (first | refine blk_drewN ?_ _ | refine blk_drew ?_ | refine blk_alloc ?_ _)); exact BK539.out) hb); have n2_ := Aside0.mk (blk_below (g := gb540) (o := .cells #[.bool a4_0, .int .i64 a4_1, .bool a4_2, .bool a4_3] 50 (0, 0)) (by (with_reducible repeat (first | refine blk_drewN ?_ _ | refine blk_drew ?_ | refine blk_alloc ?_ _)); exact BK540.out) hb); have n3_ := Aside0.mk (below_step (by repeat (first | (with_reducible first | exact HB.out | apply below_alloc | apply pw_below_drewN | apply below_drew1 | refine below_set ?_ GE538.out | refine below_set ?_ GE539.out | refine below_set ?_ GE540.out) | exact HB.out)) hb); have n4_ := Aside0.mk (hbox); have n5_ := Aside0.mk ((by rw [hg]; exact (below_size (by repeat (first | (with_reducible first | exact HB.out | apply below_alloc | apply pw_below_drewN | apply below_drew1 | refine below_set ?_ GE538.out | refine below_set ?_ GE539.out | refine below_set ?_ GE540.out) | exact HB.out))) : w.heap.size ≤ gb541)); have n6_ := Aside0.mk ((by rw [hg]; exact (below_size (by repeat (first | (with_reducible first | exact HB.out | apply below_alloc | apply pw_below_drewN | apply below_drew1 | refine below_set ?_ GE538.out | refine below_set ?_ GE539.out | refine below_set ?_ GE540.out) | exact HB.out))) : w.heap.size ≤ gb541)); have n7_ := Aside0.mk ((by rw [hg]; exact Nat.ne_of_lt (blk_lt (g := gb538) (o := .cells #[.int .i64 a0_0, .int .i64 a0_1, .string a0_2] 25 (0, 0)) (by (with_reducible repeat (first | refine blk_drewN ?_ _ | refine blk_drew ?_ | refine blk_alloc ?_ _)); exact BK538.out)) : gb538 ≠ gb541)); have n8_ := Aside0.mk ((by rw [hg]; exact Nat.ne_of_gt (blk_lt (g := gb538) (o := .cells #[.int .i64 a0_0, .int .i64 a0_1, .string a0_2] 25 (0, 0)) (by (with_reducible repeat (first | refine blk_drewN ?_ _ | refine blk_drew ?_ | refine blk_alloc ?_ _)); exact BK538.out)) : gb541 ≠ gb538)); have n9_ := Aside0.mk ((by rw [hg]; exact Nat.ne_of_lt (blk_lt (g := gb539) (o := .cells #[.int .i64 a1_0, .int .i64 a1_1, .string a1_2] 25 (0, 0)) (by (with_reducible repeat (first | refine blk_drewN ?_ _ | refine blk_drew ?_ | refine blk_alloc ?_ _)); exact BK539.out)) : gb539 ≠ gb541)); have n10_ := Aside0.mk ((by rw [hg]; exact Nat.ne_of_gt (blk_lt (g := gb539) (o := .cells #[.int .i64 a1_0, .int .i64 a1_1, .string a1_2] 25 (0, 0)) (by (with_reducible repeat (first | refine blk_drewN ?_ _ | refine blk_drew ?_ | refine blk_alloc ?_ _)); exact BK539.out)) : gb541 ≠ gb539)); have n11_ := Aside0.mk ((by rw [hg]; exact Nat.ne_of_lt (blk_lt (g := gb540) (o := .cells #[.bool a4_0, .int .i64 a4_1, .bool a4_2, .bool a4_3] 50 (0, 0)) (by (with_reducible repeat (first | refine blk_drewN ?_ _ | refine blk_drew ?_ | refine blk_alloc ?_ _)); exact BK540.out)) : gb540 ≠ gb541)); have n12_ := Aside0.mk ((by rw [hg]; exact Nat.ne_of_gt (blk_lt (g := gb540) (o := .cells #[.bool a4_0, .int .i64 a4_1, .bool a4_2, .bool a4_3] 50 (0, 0)) (by (with_reducible repeat (first | refine blk_drewN ?_ _ | refine blk_drew ?_ | refine blk_alloc ?_ _)); exact BK540.out)) : gb541 ≠ gb540)); clear BK538; clear BK539; clear BK540; clear HB; have BK538 := n0_; have BK539 := n1_; have BK540 := n2_; have HB := n3_; have BK541 := n4_; have GW541 := n5_; have GE541 := n6_; have NB538_541 := n7_; have NB541_538 := n8_; have NB539_541 := n9_; have NB541_539 := n10_; have NB540_541 := n11_; have NB541_540 := n12_; clear n0_ n1_ n2_ n3_ n4_ n5_ n6_ n7_ n8_ n9_ n10_ n11_ n12_; clear hb hbox hg; have hnb32 := NB538_539.out; have hnc32 := NB539_538.out; have hnb33 := NB538_540.out; have hnc33 := NB540_538.out; have hnb34 := NB538_541.out; have hnc34 := NB541_538.out; have hcz35_0 : w31.cell? ⟨gb538, 0, none⟩ = some (.int .i64 a0_0) := (blk_cell BK538.out 0).trans rfl; have hcz35_1 : w31.cell? ⟨gb538, 1, none⟩ = some (.int .i64 a0_1) := (blk_cell BK538.out 1).trans rfl; have hcz35_2 : w31.cell? ⟨gb538, 2, none⟩ = some (.string a0_2) := (blk_cell BK538.out 2).trans rfl; have hfz35_0 := blk_frozen BK538.out 0; have hfz35_1 := blk_frozen BK538.out 1; have hfz35_2 := blk_frozen BK538.out 2) | ((with_reducible refine gate_callee (f := 43) rfl ?_); refine goesL_ (some 23) rfl rfl Try.func43 (by kernel_rfl) rfl #[.agg #[.int .i64 a0_0, .int .i64 a0_1, .string a0_2]] rfl (by (try simp only [List.map_toArray, List.map_cons, List.map_nil]); first | done | rfl | (simp only [List.length_drop, List.length_take]; rfl)) ?_; (with_reducible refine (impl_PicOk.calls a0_0 a0_1 a0_2 true _ A9.out).mono ?_); rintro e w36 ⟨rfl, hb⟩; refine ⟨_, rfl, ?_⟩; have n0_ := Aside0.mk (blk_below (g := gb538) (o := .cells #[.int .i64 a0_0, .int .i64 a0_1, .string a0_2] 25 (0, 0)) (by (with_reducible repeat (first | refine blk_drewN ?_ _ | refine blk_drew ?_ | refine blk_alloc ?_ _)); exact BK538.out) hb); have n1_ := Aside0.mk (blk_below (g := gb539) (o := .cells #[.int .i64 a1_0, .int .i64 a1_1, .string a1_2] 25 (0, 0)) (by (with_reducible repeat (first | refine blk_drewN ?_ _ | refine blk_drew ?_ | refine blk_alloc ?_ _)); exact BK539.out) hb); have n2_ := Aside0.mk (blk_below (g := gb540) (o := .cells #[.bool a4_0, .int .i64 a4_1, .bool a4_2, .bool a4_3] 50 (0, 0)) (by (with_reducible repeat (first | refine blk_drewN ?_ _ | refine blk_drew ?_ | refine blk_alloc ?_ _)); exact BK540.out) hb); have n3_ := Aside0.mk (blk_below (g := gb541) (o := .cells #[.int .i64 a7_0, .int .i64 a7_1, .int .i64 a7_2, .int .i64 a7_3, .slice A7_4 l7_4.length c7_4] 63 (0, 0)) (by (with_reducible repeat (first | refine blk_drewN ?_ _ | refine blk_drew ?_ | refine blk_alloc ?_ _)); exact BK541.out) hb); have n4_ := Aside0.mk (below_step (by repeat (first | (with_reducible first | exact HB.out | apply below_alloc | apply pw_below_drewN | apply below_drew1 | refine below_set ?_ GE538.out | refine below_set ?_ GE539.out | refine below_set ?_ GE540.out | refine below_set ?_ GE541.out) | exact HB.out)) hb); clear BK538; clear BK539; clear BK540; clear BK541; clear HB; have BK538 := n0_; have BK539 := n1_; have BK540 := n2_; have BK541 := n3_; have HB := n4_; clear n0_ n1_ n2_ n3_ n4_; (try clear hb); (try clear hb2); (try clear hk); (try clear hi); have hcz37_0 : w36.cell? ⟨gb538, 0, none⟩ = some (.int .i64 a0_0) := (blk_cell BK538.out 0).trans rfl; have hcz37_1 : w36.cell? ⟨gb538, 1, none⟩ = some (.int .i64 a0_1) := (blk_cell BK538.out 1).trans rfl; have hcz37_2 : w36.cell? ⟨gb538, 2, none⟩ = some (.string a0_2) := (blk_cell BK538.out 2).trans rfl; have hfz37_0 := blk_frozen BK538.out 0; have hfz37_1 := blk_frozen BK538.out 1; have hfz37_2 := blk_frozen BK538.out 2) | (go_at_call 73; (with_reducible refine (impl_Pic_isSquare.calls a0_0 a0_1 a0_2 a5 a6 true _ A11.out).mono ?_); rintro e w38 ⟨rfl, hb⟩; have n0_ := Aside0.mk (blk_below (g := gb538) (o := .cells #[.int .i64 a0_0, .int .i64 a0_1, .string a0_2] 25 (0, 0)) (by (with_reducible repeat (first | refine blk_drewN ?_ _ | refine blk_drew ?_ | refine blk_alloc ?_ _)); exact BK538.out) hb); have n1_ := Aside0.mk (blk_below (g := gb539) (o := .cells #[.int .i64 a1_0, .int .i64 a1_1, .string a1_2] 25 (0, 0)) (by (with_reducible repeat (first | refine blk_drewN ?_ _ | refine blk_drew ?_ | refine blk_alloc ?_ _)); exact BK539.out) hb); have n2_ := Aside0.mk (blk_below (g := gb540) (o := .cells #[.bool a4_0, .int .i64 a4_1, .bool a4_2, .bool a4_3] 50 (0, 0)) (by (with_reducible repeat (first | refine blk_drewN ?_ _ | refine blk_drew ?_ | refine blk_alloc ?_ _)); exact BK540.out) hb); have n3_ := Aside0.mk (blk_below (g := gb541) (o := .cells #[.int .i64 a7_0, .int .i64 a7_1, .int .i64 a7_2, .int .i64 a7_3, .slice A7_4 l7_4.length c7_4] 63 (0, 0)) (by (with_reducible repeat (first | refine blk_drewN ?_ _ | refine blk_drew ?_ | refine blk_alloc ?_ _)); exact BK541.out) hb); have n4_ := Aside0.mk (below_step (by repeat (first | (with_reducible first | exact HB.out | apply below_alloc | apply pw_below_drewN | apply below_drew1 | refine below_set ?_ GE538.out | refine below_set ?_ GE539.out | refine below_set ?_ GE540.out | refine below_set ?_ GE541.out) | exact HB.out)) hb); clear BK538; clear BK539; clear BK540; clear BK541; clear HB; have BK538 := n0_; have BK539 := n1_; have BK540 := n2_; have BK541 := n3_; have HB := n4_; clear n0_ n1_ n2_ n3_ n4_; (try clear hb); (try clear hb2); (try clear hk); (try clear hi)) | (go_at_call 55; (with_reducible refine (impl_within.calls a2 0 256 true _ A13.out).mono ?_); rintro e w' ⟨rfl, ⟨nd, rfl⟩⟩) | (go_at_call 55; (with_reducible refine (impl_within.calls a3 0 256 true _ A15.out).mono ?_); rintro e w' ⟨rfl, ⟨nd, rfl⟩⟩; have hnb39 := NB541_539.out; have hnc39 := NB539_541.out; have hnb40 := NB541_540.out; have hnc40 := NB540_541.out; have hcz41_0 : w38.cell? ⟨gb541, 0, none⟩ = some (.int .i64 a7_0) := (blk_cell BK541.out 0).trans rfl; have hcz41_1 : w38.cell? ⟨gb541, 1, none⟩ = some (.int .i64 a7_1) := (blk_cell BK541.out 1).trans rfl; have hcz41_2 : w38.cell? ⟨gb541, 2, none⟩ = some (.int .i64 a7_2) := (blk_cell BK541.out 2).trans rfl; have hcz41_3 : w38.cell? ⟨gb541, 3, none⟩ = some (.int .i64 a7_3) := (blk_cell BK541.out 3).trans rfl; have hcz41_4 : w38.cell? ⟨gb541, 4, none⟩ = some (.slice A7_4 l7_4.length c7_4) := (blk_cell BK541.out 4).trans rfl; have hfz41_0 := blk_frozen BK541.out 0; have hfz41_1 := blk_frozen BK541.out 1; have hfz41_2 := blk_frozen BK541.out 2; have hfz41_3 := blk_frozen BK541.out 3; have hfz41_4 := blk_frozen BK541.out 4) | (go_at_call 74; (with_reducible refine (impl_SquareOk.calls a7_0 a7_1 a7_2 a7_3 _ _ l7_4 true _ ?side1 ?side2 A17.out).mono ?_); (case side1 => repeat (first | exact (Kd.C_below HR7_4.out (by repeat (first | (with_reducible first | exact HB.out | apply below_alloc | apply pw_below_drewN | apply below_drew1 | refine below_set ?_ GE538.out | refine below_set ?_ GE539.out | refine below_set ?_ GE540.out | refine below_set ?_ GE541.out) | exact HB.out))) | (with_reducible refine Kd.C_alloc ?_ _) | (with_reducible refine Kd.C_drewN ?_ _) | (with_reducible refine Kd.C_drew ?_))); (case side2 => exact HC7_4.out); rintro e w42 ⟨rfl, hb⟩; have n0_ := Aside0.mk (blk_below (g := gb538) (o := .cells #[.int .i64 a0_0, .int .i64 a0_1, .string a0_2] 25 (0, 0)) (by (with_reducible repeat (first | refine blk_drewN ?_ _ | refine blk_drew ?_ | refine blk_alloc ?_ _)); exact BK538.out) hb); have n1_ := Aside0.mk (blk_below (g := gb539) (o := .cells #[.int .i64 a1_0, .int .i64 a1_1, .string a1_2] 25 (0, 0)) (by (with_reducible repeat (first | refine blk_drewN ?_ _ | refine blk_drew ?_ | refine blk_alloc ?_ _)); exact BK539.out) hb); have n2_ := Aside0.mk (blk_below (g := gb540) (o := .cells #[.bool a4_0, .int .i64 a4_1, .bool a4_2, .bool a4_3] 50 (0, 0)) (by (with_reducible repeat (first | refine blk_drewN ?_ _ | refine blk_drew ?_ | refine blk_alloc ?_ _)); exact BK540.out) hb); have n3_ := Aside0.mk (blk_below (g := gb541) (o := .cells #[.int .i64 a7_0, .int .i64 a7_1, .int .i64 a7_2, .int .i64 a7_3, .slice A7_4 l7_4.length c7_4] 63 (0, 0)) (by (with_reducible repeat (first | refine blk_drewN ?_ _ | refine blk_drew ?_ | refine blk_alloc ?_ _)); exact BK541.out) hb); have n4_ := Aside0.mk (below_step (by repeat (first | (with_reducible first | exact HB.out | apply below_alloc | apply pw_below_drewN | apply below_drew1 | refine below_set ?_ GE538.out | refine below_set ?_ GE539.out | refine below_set ?_ GE540.out | refine below_set ?_ GE541.out) | exact HB.out)) hb); clear BK538; clear BK539; clear BK540; clear BK541; clear HB; have BK538 := n0_; have BK539 := n1_; have BK540 := n2_; have BK541 := n3_; have HB := n4_; clear n0_ n1_ n2_ n3_ n4_; (try clear hb); (try clear hb2); (try clear hk); (try clear hi); have hnb43 := NB540_539.out; have hnc43 := NB539_540.out; have hcz44_0 : w42.cell? ⟨gb540, 0, none⟩ = some (.bool a4_0) := (blk_cell BK540.out 0).trans rfl; have hcz44_1 : w42.cell? ⟨gb540, 1, none⟩ = some (.int .i64 a4_1) := (blk_cell BK540.out 1).trans rfl; have hcz44_2 : w42.cell? ⟨gb540, 2, none⟩ = some (.bool a4_2) := (blk_cell BK540.out 2).trans rfl; have hcz44_3 : w42.cell? ⟨gb540, 3, none⟩ = some (.bool a4_3) := (blk_cell BK540.out 3).trans rfl; have hfz44_0 := blk_frozen BK540.out 0; have hfz44_1 := blk_frozen BK540.out 1; have hfz44_2 := blk_frozen BK540.out 2; have hfz44_3 := blk_frozen BK540.out 3) | (go_at_call 62; (with_reducible refine (impl_CondOk.calls a4_0 a4_1 a4_2 a4_3 true _ A19.out).mono ?_); rintro e w45 ⟨rfl, hb⟩; have n0_ := Aside0.mk (blk_below (g := gb538) (o := .cells #[.int .i64 a0_0, .int .i64 a0_1, .string a0_2] 25 (0, 0)) (by (with_reducible repeat (first | refine blk_drewN ?_ _ | refine blk_drew ?_ | refine blk_alloc ?_ _)); exact BK538.out) hb); have n1_ := Aside0.mk (blk_below (g := gb539) (o := .cells #[.int .i64 a1_0, .int .i64 a1_1, .string a1_2] 25 (0, 0)) (by (with_reducible repeat (first | refine blk_drewN ?_ _ | refine blk_drew ?_ | refine blk_alloc ?_ _)); exact BK539.out) hb); have n2_ := Aside0.mk (blk_below (g := gb540) (o := .cells #[.bool a4_0, .int .i64 a4_1, .bool a4_2, .bool a4_3] 50 (0, 0)) (by (with_reducible repeat (first | refine blk_drewN ?_ _ | refine blk_drew ?_ | refine blk_alloc ?_ _)); exact BK540.out) hb); have n3_ := Aside0.mk (blk_below (g := gb541) (o := .cells #[.int .i64 a7_0, .int .i64 a7_1, .int .i64 a7_2, .int .i64 a7_3, .slice A7_4 l7_4.length c7_4] 63 (0, 0)) (by (with_reducible repeat (first | refine blk_drewN ?_ _ | refine blk_drew ?_ | refine blk_alloc ?_ _)); exact BK541.out) hb); have n4_ := Aside0.mk (below_step (by repeat (first | (with_reducible first | exact HB.out | apply below_alloc | apply pw_below_drewN | apply below_drew1 | refine below_set ?_ GE538.out | refine below_set ?_ GE539.out | refine below_set ?_ GE540.out | refine below_set ?_ GE541.out) | exact HB.out)) hb); clear BK538; clear BK539; clear BK540; clear BK541; clear HB; have BK538 := n0_; have BK539 := n1_; have BK540 := n2_; have BK541 := n3_; have HB := n4_; clear n0_ n1_ n2_ n3_ n4_; (try clear hb); (try clear hb2); (try clear hk); (try clear hi); have hcz46_0 : w45.cell? ⟨gb541, 0, none⟩ = some (.int .i64 a7_0) := (blk_cell BK541.out 0).trans rfl; have hcz46_1 : w45.cell? ⟨gb541, 1, none⟩ = some (.int .i64 a7_1) := (blk_cell BK541.out 1).trans rfl; have hcz46_2 : w45.cell? ⟨gb541, 2, none⟩ = some (.int .i64 a7_2) := (blk_cell BK541.out 2).trans rfl; have hcz46_3 : w45.cell? ⟨gb541, 3, none⟩ = some (.int .i64 a7_3) := (blk_cell BK541.out 3).trans rfl; have hcz46_4 : w45.cell? ⟨gb541, 4, none⟩ = some (.slice A7_4 l7_4.length c7_4) := (blk_cell BK541.out 4).trans rfl; have hfz46_0 := blk_frozen BK541.out 0; have hfz46_1 := blk_frozen BK541.out 1; have hfz46_2 := blk_frozen BK541.out 2; have hfz46_3 := blk_frozen BK541.out 3; have hfz46_4 := blk_frozen BK541.out 4; have hcz47_0 : w45.cell? ⟨gb540, 0, none⟩ = some (.bool a4_0) := (blk_cell BK540.out 0).trans rfl; have hcz47_1 : w45.cell? ⟨gb540, 1, none⟩ = some (.int .i64 a4_1) := (blk_cell BK540.out 1).trans rfl; have hcz47_2 : w45.cell? ⟨gb540, 2, none⟩ = some (.bool a4_2) := (blk_cell BK540.out 2).trans rfl; have hcz47_3 : w45.cell? ⟨gb540, 3, none⟩ = some (.bool a4_3) := (blk_cell BK540.out 3).trans rfl; have hfz47_0 := blk_frozen BK540.out 0; have hfz47_1 := blk_frozen BK540.out 1; have hfz47_2 := blk_frozen BK540.out 2; have hfz47_3 := blk_frozen BK540.out 3) | (go_at_call 75; (with_reducible refine (impl_Square_let.calls a7_0 a7_1 a7_2 a7_3 _ _ l7_4 a4_0 a4_1 a4_2 a4_3 true _ ?side1 ?side2 A21.out).mono ?_); (case side1 => repeat (first | exact (Kd.C_below HR7_4.out HB.out) | (with_reducible refine Kd.C_alloc ?_ _) | (with_reducible refine Kd.C_drewN ?_ _) | (with_reducible refine Kd.C_drew ?_))); (case side2 => exact HC7_4.out); rintro e w48 ⟨rfl, hb⟩; have n0_ := Aside0.mk (blk_below (g := gb538) (o := .cells #[.int .i64 a0_0, .int .i64 a0_1, .string a0_2] 25 (0, 0)) (by (with_reducible repeat (first | refine blk_drewN ?_ _ | refine blk_drew ?_ | refine blk_alloc ?_ _)); exact BK538.out) hb); have n1_ := Aside0.mk (blk_below (g := gb539) (o := .cells #[.int .i64 a1_0, .int .i64 a1_1, .string a1_2] 25 (0, 0)) (by (with_reducible repeat (first | refine blk_drewN ?_ _ | refine blk_drew ?_ | refine blk_alloc ?_ _)); exact BK539.out) hb); have n2_ := Aside0.mk (blk_below (g := gb540) (o := .cells #[.bool a4_0, .int .i64 a4_1, .bool a4_2, .bool a4_3] 50 (0, 0)) (by (with_reducible repeat (first | refine blk_drewN ?_ _ | refine blk_drew ?_ | refine blk_alloc ?_ _)); exact BK540.out) hb); have n3_ := Aside0.mk (blk_below (g := gb541) (o := .cells #[.int .i64 a7_0, .int .i64 a7_1, .int .i64 a7_2, .int .i64 a7_3, .slice A7_4 l7_4.length c7_4] 63 (0, 0)) (by (with_reducible repeat (first | refine blk_drewN ?_ _ | refine blk_drew ?_ | refine blk_alloc ?_ _)); exact BK541.out) hb); have n4_ := Aside0.mk (below_step (by repeat (first | (with_reducible first | exact HB.out | apply below_alloc | apply pw_below_drewN | apply below_drew1 | refine below_set ?_ GE538.out | refine below_set ?_ GE539.out | refine below_set ?_ GE540.out | refine below_set ?_ GE541.out) | exact HB.out)) hb); clear BK538; clear BK539; clear BK540; clear BK541; clear HB; have BK538 := n0_; have BK539 := n1_; have BK540 := n2_; have BK541 := n3_; have HB := n4_; clear n0_ n1_ n2_ n3_ n4_; (try clear hb); (try clear hb2); (try clear hk); (try clear hi); have hcz49_0 : w48.cell? ⟨gb541, 0, none⟩ = some (.int .i64 a7_0) := (blk_cell BK541.out 0).trans rfl; have hcz49_1 : w48.cell? ⟨gb541, 1, none⟩ = some (.int .i64 a7_1) := (blk_cell BK541.out 1).trans rfl; have hcz49_2 : w48.cell? ⟨gb541, 2, none⟩ = some (.int .i64 a7_2) := (blk_cell BK541.out 2).trans rfl; have hcz49_3 : w48.cell? ⟨gb541, 3, none⟩ = some (.int .i64 a7_3) := (blk_cell BK541.out 3).trans rfl; have hcz49_4 : w48.cell? ⟨gb541, 4, none⟩ = some (.slice A7_4 l7_4.length c7_4) := (blk_cell BK541.out 4).trans rfl; have hfz49_0 := blk_frozen BK541.out 0; have hfz49_1 := blk_frozen BK541.out 1; have hfz49_2 := blk_frozen BK541.out 2; have hfz49_3 := blk_frozen BK541.out 3; have hfz49_4 := blk_frozen BK541.out 4; have hcz50_0 : w48.cell? ⟨gb539, 0, none⟩ = some (.int .i64 a1_0) := (blk_cell BK539.out 0).trans rfl; have hcz50_1 : w48.cell? ⟨gb539, 1, none⟩ = some (.int .i64 a1_1) := (blk_cell BK539.out 1).trans rfl; have hcz50_2 : w48.cell? ⟨gb539, 2, none⟩ = some (.string a1_2) := (blk_cell BK539.out 2).trans rfl; have hfz50_0 := blk_frozen BK539.out 0; have hfz50_1 := blk_frozen BK539.out 1; have hfz50_2 := blk_frozen BK539.out 2) | (go_at_call 43; (with_reducible refine (impl_PicOk.calls a1_0 a1_1 a1_2 true _ A24.out).mono ?_); rintro e w51 ⟨rfl, hb⟩; have n0_ := Aside0.mk (blk_below (g := gb538) (o := .cells #[.int .i64 a0_0, .int .i64 a0_1, .string a0_2] 25 (0, 0)) (by (with_reducible repeat (first | refine blk_drewN ?_ _ | refine blk_drew ?_ | refine blk_alloc ?_ _)); exact BK538.out) hb); have n1_ := Aside0.mk (blk_below (g := gb539) (o := .cells #[.int .i64 a1_0, .int .i64 a1_1, .string a1_2] 25 (0, 0)) (by (with_reducible repeat (first | refine blk_drewN ?_ _ | refine blk_drew ?_ | refine blk_alloc ?_ _)); exact BK539.out) hb); have n2_ := Aside0.mk (blk_below (g := gb540) (o := .cells #[.bool a4_0, .int .i64 a4_1, .bool a4_2, .bool a4_3] 50 (0, 0)) (by (with_reducible repeat (first | refine blk_drewN ?_ _ | refine blk_drew ?_ | refine blk_alloc ?_ _)); exact BK540.out) hb); have n3_ := Aside0.mk (blk_below (g := gb541) (o := .cells #[.int .i64 a7_0, .int .i64 a7_1, .int .i64 a7_2, .int .i64 a7_3, .slice A7_4 l7_4.length c7_4] 63 (0, 0)) (by (with_reducible repeat (first | refine blk_drewN ?_ _ | refine blk_drew ?_ | refine blk_alloc ?_ _)); exact BK541.out) hb); have n4_ := Aside0.mk (below_step (by repeat (first | (with_reducible first | exact HB.out | apply below_alloc | apply pw_below_drewN | apply below_drew1 | refine below_set ?_ GE538.out | refine below_set ?_ GE539.out | refine below_set ?_ GE540.out | refine below_set ?_ GE541.out) | exact HB.out)) hb); clear BK538; clear BK539; clear BK540; clear BK541; clear HB; have BK538 := n0_; have BK539 := n1_; have BK540 := n2_; have BK541 := n3_; have HB := n4_; clear n0_ n1_ n2_ n3_ n4_; (try clear hb); (try clear hb2); (try clear hk); (try clear hi); have hcz52_0 : w51.cell? ⟨gb541, 0, none⟩ = some (.int .i64 a7_0) := (blk_cell BK541.out 0).trans rfl; have hcz52_1 : w51.cell? ⟨gb541, 1, none⟩ = some (.int .i64 a7_1) := (blk_cell BK541.out 1).trans rfl; have hcz52_2 : w51.cell? ⟨gb541, 2, none⟩ = some (.int .i64 a7_2) := (blk_cell BK541.out 2).trans rfl; have hcz52_3 : w51.cell? ⟨gb541, 3, none⟩ = some (.int .i64 a7_3) := (blk_cell BK541.out 3).trans rfl; have hcz52_4 : w51.cell? ⟨gb541, 4, none⟩ = some (.slice A7_4 l7_4.length c7_4) := (blk_cell BK541.out 4).trans rfl; have hfz52_0 := blk_frozen BK541.out 0; have hfz52_1 := blk_frozen BK541.out 1; have hfz52_2 := blk_frozen BK541.out 2; have hfz52_3 := blk_frozen BK541.out 3; have hfz52_4 := blk_frozen BK541.out 4; have hcz53_0 : w51.cell? ⟨gb539, 0, none⟩ = some (.int .i64 a1_0) := (blk_cell BK539.out 0).trans rfl; have hcz53_1 : w51.cell? ⟨gb539, 1, none⟩ = some (.int .i64 a1_1) := (blk_cell BK539.out 1).trans rfl; have hcz53_2 : w51.cell? ⟨gb539, 2, none⟩ = some (.string a1_2) := (blk_cell BK539.out 2).trans rfl; have hfz53_0 := blk_frozen BK539.out 0; have hfz53_1 := blk_frozen BK539.out 1; have hfz53_2 := blk_frozen BK539.out 2) | ((with_reducible refine gate_callee (f := 76) rfl ?_); refine goesL_ (some 79) rfl rfl Try.func76 (by kernel_rfl) rfl #[.agg #[.int .i64 a1_0, .int .i64 a1_1, .string a1_2], .int .i64 (wrap64 (a2 + a5)), .int .i64 (wrap64 (a3 + a6))] rfl (by (try simp only [List.map_toArray, List.map_cons, List.map_nil]); first | done | rfl | (rw [show (wrap64 (a2 + a5)) = (a2 + a5) from by unfold wrap64; omega, show (wrap64 (a3 + a6)) = (a3 + a6) from by unfold wrap64; omega]; rfl) | (simp only [List.length_drop, List.length_take]; rfl)) ?_; (with_reducible refine (impl_Pic_block.calls k a1_0 a1_1 a1_2 (wrap64 (a2 + a5)) (wrap64 (a3 + a6)) t550 _ A27.out).mono ?_); rintro e w54 ⟨v551, rfl, ho0, hb⟩; refine ⟨_, rfl, ?_⟩; have n0_ := Aside0.mk (Kd.R_lower ho0 (below_size (by repeat (first | (with_reducible first | exact HB.out | apply below_alloc | apply pw_below_drewN | apply below_drew1 | refine below_set ?_ GE538.out | refine below_set ?_ GE539.out | refine below_set ?_ GE540.out | refine below_set ?_ GE541.out) | exact HB.out)))); have n1_ := Aside0.mk (blk_below (g := gb538) (o := .cells #[.int .i64 a0_0, .int .i64 a0_1, .string a0_2] 25 (0, 0)) (by (with_reducible repeat (first | refine blk_drewN ?_ _ | refine blk_drew ?_ | refine blk_alloc ?_ _)); exact BK538.out) hb); have n2_ := Aside0.mk (blk_below (g := gb539) (o := .cells #[.int .i64 a1_0, .int .i64 a1_1, .string a1_2] 25 (0, 0)) (by (with_reducible repeat (first | refine blk_drewN ?_ _ | refine blk_drew ?_ | refine blk_alloc ?_ _)); exact BK539.out) hb); have n3_ := Aside0.mk (blk_below (g := gb540) (o := .cells #[.bool a4_0, .int .i64 a4_1, .bool a4_2, .bool a4_3] 50 (0, 0)) (by (with_reducible repeat (first | refine blk_drewN ?_ _ | refine blk_drew ?_ | refine blk_alloc ?_ _)); exact BK540.out) hb); have n4_ := Aside0.mk (blk_below (g := gb541) (o := .cells #[.int .i64 a7_0, .int .i64 a7_1, .int .i64 a7_2, .int .i64 a7_3, .slice A7_4 l7_4.length c7_4] 63 (0, 0)) (by (with_reducible repeat (first | refine blk_drewN ?_ _ | refine blk_drew ?_ | refine blk_alloc ?_ _)); exact BK541.out) hb); have n5_ := Aside0.mk (below_step (by repeat (first | (with_reducible first | exact HB.out | apply below_alloc | apply pw_below_drewN | apply below_drew1 | refine below_set ?_ GE538.out | refine below_set ?_ GE539.out | refine below_set ?_ GE540.out | refine below_set ?_ GE541.out) | exact HB.out)) hb); clear BK538; clear BK539; clear BK540; clear BK541; clear HB; have HO552 := n0_; have BK538 := n1_; have BK539 := n2_; have BK540 := n3_; have BK541 := n4_; have HB := n5_; clear n0_ n1_ n2_ n3_ n4_ n5_; (try clear hb); (try clear hb2); (try clear hk); (try clear hi); (try clear ho0)))
           go_ret2
           exact ⟨_, by first | rfl | (simp [errW_none, errW_some] <;> rfl) | (simp [*, errW_none, errW_some] <;> rfl), by (with_reducible repeat (first | apply Kd.R_alloc | apply Kd.R_drewN | apply Kd.R_drew)); exact HO552.out, by repeat (first | (with_reducible first | exact HB.out | apply below_alloc | apply pw_below_drewN | apply below_drew1 | refine below_set ?_ GE538.out | refine below_set ?_ GE539.out | refine below_set ?_ GE540.out | refine below_set ?_ GE541.out) | exact HB.out)⟩
          ·rw [if_neg c26] at H
           exact absurd H (by simp)
         ·replace c25 := Bool.eq_false_iff.mpr c25
          subst c25
          have H1 : (none) = some (r1, r2) := by rw [if_neg (show ¬ (false = true) by decide)] at H; exact H
          clear H
          have H := H1
          clear H1
          exact absurd H (by simp)
       ·replace c22 := Bool.eq_false_iff.mpr c22
        subst c22
        have H1 : (none) = some (r1, r2) := by rw [if_neg (show ¬ (false = true) by decide)] at H; exact H
        clear H
        have H := H1
        clear H1
        exact absurd H (by simp)
      ·replace c20 := Bool.eq_false_iff.mpr c20
       subst c20
       have H1 : (none) = some (r1, r2) := by rw [if_neg (show ¬ (false = true) by decide)] at H; exact H
       clear H
       have H := H1
       clear H1
       exact absurd H (by simp)
     ·replace c18 := Bool.eq_false_iff.mpr c18
      subst c18
      have H1 : (none) = some (r1, r2) := by rw [if_neg (show ¬ (false = true) by decide)] at H; exact H
      clear H
      have H := H1
      clear H1
      exact absurd H (by simp)
    ·replace c16 := Bool.eq_false_iff.mpr c16
     subst c16
     have H1 : (none) = some (r1, r2) := by rw [if_neg (show ¬ (false = true) by decide)] at H; exact H
     clear H
     have H := H1
     clear H1
     exact absurd H (by simp)
   ·replace c14 := Bool.eq_false_iff.mpr c14
    subst c14
    have H1 : (none) = some (r1, r2) := by rw [if_neg (show ¬ (false = true) by decide)] at H; exact H
    clear H
    have H := H1
    clear H1
    exact absurd H (by simp)
  ·replace c12 := Bool.eq_false_iff.mpr c12
   subst c12
   have H1 : (none) = some (r1, r2) := by rw [if_neg (show ¬ (false = true) by decide)] at H; exact H
   clear H
   have H := H1
   clear H1
   exact absurd H (by simp)
 ·replace c10 := Bool.eq_false_iff.mpr c10
  subst c10
  have H1 : (none) = some (r1, r2) := by rw [if_neg (show ¬ (false = true) by decide)] at H; exact H
  clear H
  have H := H1
  clear H1
  exact absurd H (by simp)

def impl_isTile.f (a0 : Int) : Option (Bool) := if (Int.tmod a0 8) = 0 then ((impl_within.f a0 8 64).bind fun t553 => (some t553)) else (some false)
set_option maxHeartbeats 8000000 in
set_option maxRecDepth 100000 in
theorem impl_isTile.calls (a0 : Int) (r : Bool) (w : World) (h : impl_isTile.f a0 = some r) :
  Calls Try.prog 82 #[.int .i64 a0] w fun e w' => e = .returned (.bool r) ∧ Drawn0 w w' := by
 have H : (if (Int.tmod a0 8) = 0 then ((impl_within.f a0 8 64).bind fun t553 => (some t553)) else (some false)) = some r := h
 clear h
 by_cases c2 : (Int.tmod a0 8) = 0
 ·rw [if_pos c2] at H
  have c2b0 : ((Int.tmod a0 8) == 0) = true := beq_iff_eq.mpr c2
  have c2b1 : ((Int.tmod a0 8) != 0) = false := bne_eq_false_iff_eq.mpr c2
  clear c2
  replace H := Option.bind_eq_some_iff.mp H
  obtain ⟨t553, A30, H⟩ := H
  replace H : (some t553) = some r := H
  have A3 := Aside0.mk A30
  clear A30
  obtain rfl := Option.some.inj H
  go_enter Try.func82, Try.ntmps82
  go_wp2_with (first | (go_at_call 55; (with_reducible refine (impl_within.calls a0 8 64 t553 _ A3.out).mono ?_); rintro e w' ⟨rfl, ⟨nd, rfl⟩⟩))
  go_ret
  exact ⟨by first | rfl | (simp; done) | (simp [*]; done), by repeat (first | exact Drawn0.refl _ | apply Drawn0.step)⟩
 ·rw [if_neg c2] at H
  have c2b0 : ((Int.tmod a0 8) == 0) = false := beq_eq_false_iff_ne.mpr c2
  have c2b1 : ((Int.tmod a0 8) != 0) = true := bne_iff_ne.mpr c2
  obtain rfl := Option.some.inj H
  go_enter Try.func82, Try.ntmps82
  go_wp2
  go_ret
  exact ⟨by first | rfl | (simp; done) | (simp [*]; done), by repeat (first | exact Drawn0.refl _ | apply Drawn0.step)⟩

mutual
def impl_Grey.j0 : Nat → Int → Int → Bool → Option (Int × Int × ByteArray)
 | 0, _, _, _ => none
 | k + 1, x0, x1, x14 => if x14 = true then (some (0, 0, (⟨#[]⟩ : ByteArray))) else (if 0 ≤ (wrap64 (x0 * x1)) then (if (wrap64 (x0 * x1) : Int).toNat ≤ 281474976710656 then ((some (List.replicate (wrap64 (x0 * x1) : Int).toNat 0 : List Int)).bind fun y557 => (impl_Grey.l0 k x0 x1 y557 (y557.length : Int) 0)) else (none)) else (none))
def impl_Grey.l0 : Nat → Int → Int → List Int → Int → Int → Option (Int × Int × ByteArray)
 | 0, _, _, _, _, _ => none
 | k + 1, x0, x1, x5, x21, x22 => if x22 < x21 then (if 0 ≤ x22 then (if x22 < (x5.length : Int) then (impl_Grey.l0 k x0 x1 (x5.set (x22 : Int).toNat 128) x21 (wrap64 (x22 + 1))) else (none)) else (none)) else (some (x0, x1, strOfNums x5))
end
def impl_Grey.f (k : Nat) (a0 : Int) (a1 : Int) : Option (Int × Int × ByteArray) := (impl_within.f a0 1 256).bind fun t555 => (if t555 = true then ((impl_within.f a1 1 256).bind fun t556 => (impl_Grey.j0 k a0 a1 (!t556))) else (impl_Grey.j0 k a0 a1 true))
theorem impl_Grey.mono_l : ∀ k, (∀ y0 y1 y2, LeO (impl_Grey.j0 k y0 y1 y2) (impl_Grey.j0 (k + 1) y0 y1 y2)) ∧ (∀ y0 y1 y2 y3 y4, LeO (impl_Grey.l0 k y0 y1 y2 y3 y4) (impl_Grey.l0 (k + 1) y0 y1 y2 y3 y4))
 | 0 => ⟨fun _ _ _ r h => by simp [impl_Grey.j0] at h, fun _ _ _ _ _ r h => by simp [impl_Grey.l0] at h⟩
 | k + 1 => by
  obtain ⟨ih0, ih1⟩ := impl_Grey.mono_l k
  refine ⟨?_, ?_⟩
  ·intro y0 y1 y2
   unfold impl_Grey.j0
   repeat' first
   | (with_reducible exact ih0 _ _ _)
   | (with_reducible exact ih1 _ _ _ _ _)
   | (with_reducible exact LeO.refl _)
   | (with_reducible exact LeO.none _)
   | (with_reducible refine LeO.ite ?_ ?_)
   | (with_reducible refine LeO.bind ?_ (fun _ => ?_))
   | exact ih0 _ _ _
   | exact ih1 _ _ _ _ _
   | exact LeO.none _
   | refine LeO.ite ?_ ?_
   | refine LeO.bind ?_ (fun _ => ?_)
  ·intro y0 y1 y2 y3 y4
   unfold impl_Grey.l0
   repeat' first
   | (with_reducible exact ih0 _ _ _)
   | (with_reducible exact ih1 _ _ _ _ _)
   | (with_reducible exact LeO.refl _)
   | (with_reducible exact LeO.none _)
   | (with_reducible refine LeO.ite ?_ ?_)
   | (with_reducible refine LeO.bind ?_ (fun _ => ?_))
   | exact ih0 _ _ _
   | exact ih1 _ _ _ _ _
   | exact LeO.none _
   | refine LeO.ite ?_ ?_
   | refine LeO.bind ?_ (fun _ => ?_)
theorem impl_Grey.mono : ∀ a0 a1 k, LeO (impl_Grey.f k a0 a1) (impl_Grey.f (k + 1) a0 a1) := by
 intro a0 a1 k
 obtain ⟨ih0, ih1⟩ := impl_Grey.mono_l k
 unfold impl_Grey.f
 repeat' first
   | (with_reducible exact ih0 _ _ _)
   | (with_reducible exact ih1 _ _ _ _ _)
   | (with_reducible exact LeO.refl _)
   | (with_reducible exact LeO.none _)
   | (with_reducible refine LeO.ite ?_ ?_)
   | (with_reducible refine LeO.bind ?_ (fun _ => ?_))
   | exact ih0 _ _ _
   | exact ih1 _ _ _ _ _
   | exact LeO.none _
   | refine LeO.ite ?_ ?_
   | refine LeO.bind ?_ (fun _ => ?_)
set_option maxHeartbeats 8000000 in
set_option maxRecDepth 100000 in
theorem impl_Grey.calls (k : Nat) (a0 : Int) (a1 : Int) (r1 : Int) (r2 : Int) (r3 : ByteArray) (w : World) (h : impl_Grey.f k a0 a1 = some (r1, r2, r3)) :
  Calls Try.prog 83 #[.int .i64 a0, .int .i64 a1] w fun e w' => e = .returned (.agg #[.int .i64 r1, .int .i64 r2, .string r3]) ∧ Below w.heap.size w w' := by
 have hu25 := Try.underlying25
 have HB := Aside0.mk (Below.refl w.heap.size w)
 have H : ((impl_within.f a0 1 256).bind fun t555 => (if t555 = true then ((impl_within.f a1 1 256).bind fun t556 => (impl_Grey.j0 k a0 a1 (!t556))) else (impl_Grey.j0 k a0 a1 true))) = some (r1, r2, r3) := h
 clear h
 have HC3 := Aside0.mk H
 clear H
 go_enter Try.func83, Try.ntmps83
 go_upto_region 1 with (first | ((with_reducible refine gate_dst (N := 4) rfl ?_); refine box_event ?hg (N := 4) ?hd (cs := #[.int .i64 0, .int .i64 0, .string (⟨#[]⟩ : ByteArray)]) (t := 25) ?hr ?_; (case hd => rfl); (case hg => rfl); (case hr => first | (go_simp; done) | (go_simp; rfl)); intro gb554 hg w4 hbox hb; have n0_ := Aside0.mk (below_step (by repeat (first | (with_reducible first | exact HB.out | apply below_alloc | apply pw_below_drewN | apply below_drew1) | exact HB.out)) hb); have n1_ := Aside0.mk (hbox); have n2_ := Aside0.mk ((by rw [hg]; exact (below_size (by repeat (first | (with_reducible first | exact HB.out | apply below_alloc | apply pw_below_drewN | apply below_drew1) | exact HB.out))) : w.heap.size ≤ gb554)); have n3_ := Aside0.mk ((by rw [hg]; exact (below_size (by repeat (first | (with_reducible first | exact HB.out | apply below_alloc | apply pw_below_drewN | apply below_drew1) | exact HB.out))) : w.heap.size ≤ gb554)); clear HB; have HB := n0_; have BK554 := n1_; have GW554 := n2_; have GE554 := n3_; clear n0_ n1_ n2_ n3_; clear hb hbox hg))
 (try simp only [Act.put, List.setIfInBounds_toArray, List.set_cons_zero, List.set_cons_succ])
 go_cut [14] (fun v14 wc => ∃ (kq : Nat) (x14_2 : Bool), v14 = .bool x14_2 ∧ Aside0 (impl_Grey.j0 kq a0 a1 x14_2 = some (r1, r2, r3)) ∧ Aside0 (kq ≤ k) ∧ Aside0 (wc.heap[gb554]? = some (.cells #[.int .i64 0, .int .i64 0, .string (⟨#[]⟩ : ByteArray)] 25 (0, 0))) ∧ Aside0 (Below w.heap.size w wc))
 case first =>
  have H := HC3.out
  clear HC3
  replace H := Option.bind_eq_some_iff.mp H
  obtain ⟨t555, A50, H⟩ := H
  replace H : (if t555 = true then ((impl_within.f a1 1 256).bind fun t556 => (impl_Grey.j0 k a0 a1 (!t556))) else (impl_Grey.j0 k a0 a1 true)) = some (r1, r2, r3) := H
  have A5 := Aside0.mk A50
  clear A50
  by_cases c6 : t555 = true
  ·subst c6
   have H1 : ((impl_within.f a1 1 256).bind fun t556 => (impl_Grey.j0 k a0 a1 (!t556))) = some (r1, r2, r3) := by rw [if_pos rfl] at H; exact H
   clear H
   have H := H1
   clear H1
   replace H := Option.bind_eq_some_iff.mp H
   obtain ⟨t556, A70, H⟩ := H
   replace H : (impl_Grey.j0 k a0 a1 (!t556)) = some (r1, r2, r3) := H
   have A7 := Aside0.mk A70
   clear A70
   have H' := Aside0.mk H
   clear H
   go_wp2_with (first | ((with_reducible refine gate_callee (f := 55) rfl ?_); refine goesL_ (some 8) rfl rfl Try.func55 (by kernel_rfl) rfl #[.int .i64 a0, .int .i64 1, .int .i64 256] rfl (by (try simp only [List.map_toArray, List.map_cons, List.map_nil]); first | done | rfl | (simp only [List.length_drop, List.length_take]; rfl)) ?_; (with_reducible refine (impl_within.calls a0 1 256 true _ A5.out).mono ?_); rintro e w' ⟨rfl, ⟨nd, rfl⟩⟩; refine ⟨_, rfl, ?_⟩) | (go_at_call 55; (with_reducible refine (impl_within.calls a1 1 256 t556 _ A7.out).mono ?_); rintro e w' ⟨rfl, ⟨nd, rfl⟩⟩))
   go_meet
   case rel => exact ⟨_, (!t556), (by first | rfl | (simp; done) | (simp [*]; done)), H', ⟨by first | omega | exact Nat.le_refl _⟩, ⟨by (with_reducible repeat (first | refine blk_drewN ?_ _ | refine blk_drew ?_ | refine blk_alloc ?_ _)); exact BK554.out⟩, ⟨by repeat (first | (with_reducible first | exact HB.out | apply below_alloc | apply pw_below_drewN | apply below_drew1 | refine below_set ?_ GE554.out) | exact HB.out)⟩⟩
  ·replace c6 := Bool.eq_false_iff.mpr c6
   subst c6
   have H1 : (impl_Grey.j0 k a0 a1 true) = some (r1, r2, r3) := by rw [if_neg (show ¬ (false = true) by decide)] at H; exact H
   clear H
   have H := H1
   clear H1
   have H' := Aside0.mk H
   clear H
   go_wp2_with (first | ((with_reducible refine gate_callee (f := 55) rfl ?_); refine goesL_ (some 8) rfl rfl Try.func55 (by kernel_rfl) rfl #[.int .i64 a0, .int .i64 1, .int .i64 256] rfl (by (try simp only [List.map_toArray, List.map_cons, List.map_nil]); first | done | rfl | (simp only [List.length_drop, List.length_take]; rfl)) ?_; (with_reducible refine (impl_within.calls a0 1 256 false _ A5.out).mono ?_); rintro e w' ⟨rfl, ⟨nd, rfl⟩⟩; refine ⟨_, rfl, ?_⟩))
   go_meet
   case rel => exact ⟨_, (true), (by first | rfl | (simp; done) | (simp [*]; done)), H', ⟨by first | omega | exact Nat.le_refl _⟩, ⟨by (with_reducible repeat (first | refine blk_drewN ?_ _ | refine blk_drew ?_ | refine blk_alloc ?_ _)); exact BK554.out⟩, ⟨by repeat (first | (with_reducible first | exact HB.out | apply below_alloc | apply pw_below_drewN | apply below_drew1 | refine below_set ?_ GE554.out) | exact HB.out)⟩⟩
 case rest =>
  clear HC3
  try clear p2
  try clear c5
  try clear c6
  obtain ⟨kq, x14_2, rfl, HA, HJ2, BK554, HB⟩ := hcut
  cases kq with
  | zero => exact absurd HA.out (by simp [impl_Grey.j0])
  | succ kj2 =>
   have H := HA.out
   clear HA
   simp only [impl_Grey.j0] at H
   by_cases c8 : x14_2 = true
   ·subst c8
    have H1 : (some (0, 0, (⟨#[]⟩ : ByteArray))) = some (r1, r2, r3) := by rw [if_pos rfl] at H; exact H
    clear H
    have H := H1
    clear H1
    simp only [Option.some.injEq, Prod.mk.injEq] at H
    obtain ⟨rfl, rfl, rfl⟩ := H
    have hcz9_0 : wc.cell? ⟨gb554, 0, none⟩ = some (.int .i64 0) := (blk_cell BK554.out 0).trans rfl
    have hcz9_1 : wc.cell? ⟨gb554, 1, none⟩ = some (.int .i64 0) := (blk_cell BK554.out 1).trans rfl
    have hcz9_2 : wc.cell? ⟨gb554, 2, none⟩ = some (.string (⟨#[]⟩ : ByteArray)) := (blk_cell BK554.out 2).trans rfl
    have hfz9_0 := blk_frozen BK554.out 0
    have hfz9_1 := blk_frozen BK554.out 1
    have hfz9_2 := blk_frozen BK554.out 2
    go_wp2
    refine bodyPost_ret (results_cell_row rfl _ _ gb554 25 #[.int .i64 0, .int .i64 0, .string (⟨#[]⟩ : ByteArray)] (0, 0) _ rfl (by (with_reducible repeat (first | refine blk_drewN ?_ _ | refine blk_drew ?_ | refine blk_alloc ?_ _)); refine blk_put (cs := #[.int .i64 0, .int .i64 0, .string (⟨#[]⟩ : ByteArray)]) ?_ 2 _ rfl; (with_reducible repeat (first | refine blk_drewN ?_ _ | refine blk_drew ?_ | refine blk_alloc ?_ _)); refine blk_put (cs := #[.int .i64 0, .int .i64 0, .string (⟨#[]⟩ : ByteArray)]) ?_ 1 _ rfl; (with_reducible repeat (first | refine blk_drewN ?_ _ | refine blk_drew ?_ | refine blk_alloc ?_ _)); refine blk_put (cs := #[.int .i64 0, .int .i64 0, .string (⟨#[]⟩ : ByteArray)]) ?_ 0 _ rfl; (with_reducible repeat (first | refine blk_drewN ?_ _ | refine blk_drew ?_ | refine blk_alloc ?_ _)); exact BK554.out) Try.underlying25 rfl (by kernel_rfl)) rfl ?_
    exact ⟨by first | rfl | (simp [errW_none, errW_some] <;> rfl) | (simp [*, errW_none, errW_some] <;> rfl), by repeat (first | (with_reducible first | exact HB.out | apply below_alloc | apply pw_below_drewN | apply below_drew1 | refine below_set ?_ GE554.out) | exact HB.out)⟩
   ·replace c8 := Bool.eq_false_iff.mpr c8
    subst c8
    have H1 : (if 0 ≤ (wrap64 (a0 * a1)) then (if (wrap64 (a0 * a1) : Int).toNat ≤ 281474976710656 then ((some (List.replicate (wrap64 (a0 * a1) : Int).toNat 0 : List Int)).bind fun y557 => (impl_Grey.l0 kj2 a0 a1 y557 (y557.length : Int) 0)) else (none)) else (none)) = some (r1, r2, r3) := by rw [if_neg (show ¬ (false = true) by decide)] at H; exact H
    clear H
    have H := H1
    clear H1
    obtain ⟨ji10, hji10⟩ : ∃ j_ : Int, (wrap64 (a0 * a1)) = j_ := ⟨_, rfl⟩
    replace H : (if 0 ≤ (ji10) then (if (ji10 : Int).toNat ≤ 281474976710656 then ((some (List.replicate (ji10 : Int).toNat 0 : List Int)).bind fun y557 => (impl_Grey.l0 kj2 a0 a1 y557 (y557.length : Int) 0)) else (none)) else (none)) = some (r1, r2, r3) := by first | (rw [hji10] at H; exact H) | (simp only [hji10] at H ⊢; exact H)
    have hji10w : (IntKind.i64.wrap (a0 * a1)) = ji10 := (i64_w _).trans hji10
    by_cases c11 : 0 ≤ (ji10)
    ·rw [if_pos c11] at H
     have c11b0 := eq_true c11
     have c11b1 : decide (0 ≤ (ji10)) = true := decide_eq_true c11
     clear c11
     by_cases c12 : (ji10 : Int).toNat ≤ 281474976710656
     ·rw [if_pos c12] at H
      have c12b0 := eq_true c12
      have c12b1 : decide ((ji10 : Int).toNat ≤ 281474976710656) = true := decide_eq_true c12
      clear c12
      obtain ⟨y557, hy557⟩ : ∃ y_ : List Int, y_ = (List.replicate (ji10 : Int).toNat 0) := ⟨_, rfl⟩
      replace H : (impl_Grey.l0 kj2 a0 a1 y557 (y557.length : Int) 0) = some (r1, r2, r3) := by first | (rw [hy557]; with_reducible exact H) | (have H2_ := (Option.bind_some _ _).symm.trans H; rw [hy557]; with_reducible exact H2_) | (have H2_ := (Option.bind_some _ _).symm.trans H; with_reducible exact H2_) | with_reducible exact H | (rw [hy557]; exact H) | exact H
      have Ny557 := Aside0.mk hy557
      clear hy557
      have H' := Aside0.mk H
      clear H
      go_wp2_with (first | ((with_reducible refine gate_dst (N := 19) rfl ?_); refine Kd.R_make (Kd.int .u8) _ 5 rfl (N := 19) rfl 31 _ _ rfl ji10 rfl rfl Try.underlying31 (.int .u8 0) 1 info5 rfl (by decide) (by omega) 0 (ok := fun _ => True) (okp := fun _ => True) rfl (fun _ hk => hk) trivial (of_decide_eq_true (by first | (with_reducible assumption) | assumption)) (Nat.le_trans (Nat.mul_le_mul_right _ (of_decide_eq_true (by first | (with_reducible assumption) | assumption) : ji10.toNat ≤ 281474976710656)) (by omega)) (Below.refl _ _) (Nat.le_refl _) ?_; intro v558 w13 ho14 hb hg_ hnew_; clear hg_ hnew_; (first | rw [← Ny557.out] at ho14 | (simp only [Int.reduceToNat] at ho14; rw [← Ny557.out] at ho14)); have n0_ := Aside0.mk (Kd.R_lower ho14 (below_size (by repeat (first | (with_reducible first | exact HB.out | apply below_alloc | apply pw_below_drewN | apply below_drew1 | refine below_set ?_ GE554.out) | exact HB.out)))); have n1_ := Aside0.mk (blk_below (g := gb554) (o := .cells #[.int .i64 0, .int .i64 0, .string (⟨#[]⟩ : ByteArray)] 25 (0, 0)) (by (with_reducible repeat (first | refine blk_drewN ?_ _ | refine blk_drew ?_ | refine blk_alloc ?_ _)); exact BK554.out) hb); have n2_ := Aside0.mk (below_step (by repeat (first | (with_reducible first | exact HB.out | apply below_alloc | apply pw_below_drewN | apply below_drew1 | refine below_set ?_ GE554.out) | exact HB.out)) hb); clear BK554; clear HB; have HO559 := n0_; have BK554 := n1_; have HB := n2_; clear n0_ n1_ n2_; clear hb ho14; obtain ⟨Ao15, co15, eo15⟩ := Kd.R_slice HO559.out; subst eo15))
      go_loopg [22] kj2 (fun kq v22 w' => ∃ (x5_2 : List Int) (x22_2 : Int), v22 = .int .i64 x22_2 ∧ Aside0 (impl_Grey.l0 kq a0 a1 x5_2 (y557.length : Int) x22_2 = some (r1, r2, r3)) ∧ Aside0 (kq ≤ kj2) ∧ Aside0 (Kd.R (Kd.int .u8) 5 w' w.heap.size (fun _ => True) (.slice Ao15 y557.length co15) x5_2) ∧ Aside0 (w'.heap[gb554]? = some (.cells #[.int .i64 0, .int .i64 0, .string (⟨#[]⟩ : ByteArray)] 25 (0, 0))) ∧ Aside0 (Below w.heap.size w w'))
      case atStart => exact ⟨(y557), (0), (by first | rfl | (simp; done) | (simp [*]; done)), H', ⟨Nat.le_refl _⟩, ⟨by (with_reducible repeat (first | apply Kd.R_alloc | apply Kd.R_drewN | apply Kd.R_drew)); exact HO559.out⟩, ⟨by (with_reducible repeat (first | refine blk_drewN ?_ _ | refine blk_drew ?_ | refine blk_alloc ?_ _)); exact BK554.out⟩, ⟨by repeat (first | (with_reducible first | exact HB.out | apply below_alloc | apply pw_below_drewN | apply below_drew1 | refine below_set ?_ GE554.out) | exact HB.out)⟩⟩
      case round =>
       clear H'
       try clear c1
       try clear p2
       try clear c5
       try clear c6
       try clear p6
       try clear c8
       try clear c11
       try clear c11b0
       try clear c11b1
       try clear c12
       try clear c12b0
       try clear c12b1
       try clear hcz9_0
       try clear hcz9_1
       try clear hcz9_2
       try clear hfz9_0
       try clear hfz9_1
       try clear hfz9_2
       try clear p2
       obtain ⟨x5_2, x22_2, rfl, HA, HK2, HO_5, BK554, HB⟩ := hrel
       have hl5_2 := (Kd.R_reads' HO_5.out).1
       rw [hl5_2] at HO_5
       (try simp only [hl5_2])
       (try simp only [hl5_2] at BK554)
       cases gk with
       | zero => exact absurd HA.out (by simp [impl_Grey.l0])
       | succ k2 =>
        have H := HA.out
        clear HA
        simp only [impl_Grey.l0] at H
        by_cases c16 : x22_2 < (y557.length : Int)
        ·rw [if_pos c16] at H
         have c16b0 : decide (x22_2 < (y557.length : Int)) = true := decide_eq_true c16
         (try (have c16b0h := c16b0; simp only [hl5_2] at c16b0h))
         clear c16
         by_cases c17 : 0 ≤ x22_2
         ·rw [if_pos c17] at H
          have c17b0 : decide (0 ≤ x22_2) = true := decide_eq_true c17
          (try (have c17b0h := c17b0; simp only [hl5_2] at c17b0h))
          clear c17
          by_cases c18 : x22_2 < (x5_2.length : Int)
          ·rw [if_pos c18] at H
           have c18b0 : decide (x22_2 < (x5_2.length : Int)) = true := decide_eq_true c18
           (try (have c18b0h := c18b0; simp only [hl5_2] at c18b0h))
           clear c18
           obtain ⟨y560, hy560⟩ : ∃ y_ : List Int, y_ = (x5_2.set (x22_2 : Int).toNat 128) := ⟨_, rfl⟩
           replace H : (impl_Grey.l0 k2 a0 a1 y560 (y557.length : Int) (wrap64 (x22_2 + 1))) = some (r1, r2, r3) := by first | (rw [hy560]; with_reducible exact H) | (have H2_ := (Option.bind_some _ _).symm.trans H; rw [hy560]; with_reducible exact H2_) | (have H2_ := (Option.bind_some _ _).symm.trans H; with_reducible exact H2_) | with_reducible exact H | (rw [hy560]; exact H) | exact H
           have Ny560 := Aside0.mk hy560
           clear hy560
           have H' := Aside0.mk H
           clear H
           have p19 : 0 ≤ (x22_2 : Int) := of_decide_eq_true (by first | (with_reducible assumption) | assumption)
           have q19 : (x22_2 : Int) < ((x5_2.length : Int) : Int) := of_decide_eq_true (by first | (with_reducible assumption) | assumption)
           obtain ⟨go19, co19, eo19, gb19, gl19, cl19, HG19⟩ := Kd.R_form HO_5.out (by omega)
           (first | cases eo19 | (injection eo19 with ea_ en_ ec_; (first | subst ea_ | (injection ea_ with ea_; subst ea_)); subst ec_; clear en_))
           have GB19 := Aside0.mk gb19
           have GG19 := Aside0.mk HG19
           clear gb19 gl19 HG19
           obtain ⟨hx19_0, hf19_0⟩ := Kd.R_celln 0 HO_5.out (x22_2 : Int) p19 q19
           replace p19 := eq_true p19
           replace q19 := eq_true q19
           have HP20 := Kd.R_putg HO_5.out (x22_2 : Int) 128
           go_wp2_with (first | ((with_reducible refine gate_store (t := 5) (p := 27) rfl ?_); refine store_event (t := 5) (p := 27) (v := ?vo_w21) (w1 := (wr.setCell ⟨go19, (x22_2 : Int).toNat, none⟩ (.int .u8 128))) ?hg ?ho ?hn ?hr ?_; (case ho => rfl); (case hg => rfl); (case hn => rfl); (case hr => first | (go_simp; done) | (go_simp; rfl)); intro w21 hw; have hg : wr.grownBy w21 (some go19) := (by rw [hw]; exact HP20.2); have hp_ : Kd.R (Kd.int .u8) 5 w21 w.heap.size (fun _ => True) (.slice (some ⟨go19, 0, none⟩) x5_2.length co15) y560 := (by rw [hw, Ny560.out]; exact HP20.1); clear HP20; have n0_ := Aside0.mk (hp_); have n1_ := Aside0.mk (blk_grown (g := gb554) (o := .cells #[.int .i64 0, .int .i64 0, .string (⟨#[]⟩ : ByteArray)] 25 (0, 0)) (by (with_reducible repeat (first | refine blk_drewN ?_ _ | refine blk_drew ?_ | refine blk_alloc ?_ _)); exact BK554.out) hg (Kd.R_ne HO_5.out BK554.out (by decide))); have n2_ := Aside0.mk ((by rw [hw]; exact below_set (HB.out) GB19.out : Below w.heap.size w w21)); clear HO_5; clear BK554; clear HB; have HO_5 := n0_; have BK554 := n1_; have HB := n2_; clear n0_ n1_ n2_; clear hg hw hp_))
           (try simp only [← hl5_2])
           go_roundg k2
           case measure => have := HJ2.out; have := HK2.out; omega
           case rel => exact ⟨(y560), (wrap64 (x22_2 + 1)), (by first | rfl | (simp; done) | (simp [*]; done)), H', ⟨by have := HJ2.out; have := HK2.out; omega⟩, ⟨by (try simp only [hl5_2]); (with_reducible repeat (first | apply Kd.R_alloc | apply Kd.R_drewN | apply Kd.R_drew)); exact HO_5.out⟩, ⟨by (try simp only [hl5_2]); (with_reducible repeat (first | refine blk_drewN ?_ _ | refine blk_drew ?_ | refine blk_alloc ?_ _)); exact BK554.out⟩, ⟨by repeat (first | (with_reducible first | exact HB.out | apply below_alloc | apply pw_below_drewN | apply below_drew1 | refine below_set ?_ GE554.out) | exact HB.out)⟩⟩
          ·rw [if_neg c18] at H
           exact absurd H (by simp)
         ·rw [if_neg c17] at H
          exact absurd H (by simp)
        ·rw [if_neg c16] at H
         have c16b0 : decide (x22_2 < (y557.length : Int)) = false := decide_eq_false c16
         (try (have c16b0h := c16b0; simp only [hl5_2] at c16b0h))
         clear c16
         simp only [Option.some.injEq, Prod.mk.injEq] at H
         obtain ⟨rfl, rfl, rfl⟩ := H
         have hcv22 := own_string (P := Try.prog) Try.underlying31 Try.underlying5 Try.underlying9 (Kd.own_of_R HO_5.out)
         have hcz23_0 : wr.cell? ⟨gb554, 0, none⟩ = some (.int .i64 0) := (blk_cell BK554.out 0).trans rfl
         have hcz23_1 : wr.cell? ⟨gb554, 1, none⟩ = some (.int .i64 0) := (blk_cell BK554.out 1).trans rfl
         have hcz23_2 : wr.cell? ⟨gb554, 2, none⟩ = some (.string (⟨#[]⟩ : ByteArray)) := (blk_cell BK554.out 2).trans rfl
         have hfz23_0 := blk_frozen BK554.out 0
         have hfz23_1 := blk_frozen BK554.out 1
         have hfz23_2 := blk_frozen BK554.out 2
         go_wp2
         refine bodyPost_ret (results_cell_row rfl _ _ gb554 25 #[.int .i64 a0, .int .i64 a1, .string (strOfNums x5_2)] (0, 0) _ rfl (by (with_reducible repeat (first | refine blk_drewN ?_ _ | refine blk_drew ?_ | refine blk_alloc ?_ _)); refine blk_put (cs := #[.int .i64 a0, .int .i64 a1, .string (⟨#[]⟩ : ByteArray)]) ?_ 2 _ rfl; (with_reducible repeat (first | refine blk_drewN ?_ _ | refine blk_drew ?_ | refine blk_alloc ?_ _)); refine blk_put (cs := #[.int .i64 a0, .int .i64 0, .string (⟨#[]⟩ : ByteArray)]) ?_ 1 _ rfl; (with_reducible repeat (first | refine blk_drewN ?_ _ | refine blk_drew ?_ | refine blk_alloc ?_ _)); refine blk_put (cs := #[.int .i64 0, .int .i64 0, .string (⟨#[]⟩ : ByteArray)]) ?_ 0 _ rfl; (with_reducible repeat (first | refine blk_drewN ?_ _ | refine blk_drew ?_ | refine blk_alloc ?_ _)); exact BK554.out) Try.underlying25 rfl (by kernel_rfl)) rfl ?_
         exact ⟨by first | rfl | (simp [errW_none, errW_some] <;> rfl) | (simp only [← hji10]; first | rfl | (simp [errW_none, errW_some] <;> rfl)) | (simp [*, errW_none, errW_some] <;> rfl), by repeat (first | (with_reducible first | exact HB.out | apply below_alloc | apply pw_below_drewN | apply below_drew1 | refine below_set ?_ GE554.out) | exact HB.out)⟩
     ·rw [if_neg c12] at H
      exact absurd H (by simp)
    ·rw [if_neg c11] at H
     exact absurd H (by simp)

def impl_dots.f (a0_0 : Int) (a0_1 : Int) (a0_2 : ByteArray) : Option (List Int) := some (bytesOf a0_2)
set_option maxHeartbeats 8000000 in
set_option maxRecDepth 100000 in
theorem impl_dots.calls (a0_0 : Int) (a0_1 : Int) (a0_2 : ByteArray) (r : List Int) (w : World) (h : impl_dots.f a0_0 a0_1 a0_2 = some r) :
  Calls Try.prog 45 #[.agg #[.int .i64 a0_0, .int .i64 a0_1, .string a0_2]] w fun e w' => ∃ v0_ : Value, e = .returned (v0_) ∧ Kf 5 w' w.heap.size (fun _ => True) v0_ r ∧ Below w.heap.size w w' := by
 have hu25 := Try.underlying25
 have HB := Aside0.mk (Below.refl w.heap.size w)
 have H : (some (bytesOf a0_2)) = some r := h
 clear h
 obtain ⟨y562, hy562⟩ : ∃ y_ : List Int, y_ = (bytesOf a0_2) := ⟨_, rfl⟩
 replace H : (some y562) = some r := by first | (rw [hy562]; with_reducible exact H) | (have H2_ := (Option.bind_some _ _).symm.trans H; rw [hy562]; with_reducible exact H2_) | (have H2_ := (Option.bind_some _ _).symm.trans H; with_reducible exact H2_) | with_reducible exact H | (rw [hy562]; exact H) | exact H
 have Ny562 := Aside0.mk hy562
 clear hy562
 obtain rfl := Option.some.inj H
 go_enter Try.func45, Try.ntmps45
 go_wp2_with (first | ((with_reducible refine gate_dst (N := 1) rfl ?_); refine box_event ?hg (N := 1) ?hd (cs := #[.int .i64 a0_0, .int .i64 a0_1, .string a0_2]) (t := 25) ?hr ?_; (case hd => rfl); (case hg => rfl); (case hr => first | (go_simp; done) | (go_simp; rfl)); intro gb561 hg w2 hbox hb; have n0_ := Aside0.mk (below_step (by repeat (first | (with_reducible first | exact HB.out | apply below_alloc | apply pw_below_drewN | apply below_drew1) | exact HB.out)) hb); have n1_ := Aside0.mk (hbox); have n2_ := Aside0.mk ((by rw [hg]; exact (below_size (by repeat (first | (with_reducible first | exact HB.out | apply below_alloc | apply pw_below_drewN | apply below_drew1) | exact HB.out))) : w.heap.size ≤ gb561)); have n3_ := Aside0.mk ((by rw [hg]; exact (below_size (by repeat (first | (with_reducible first | exact HB.out | apply below_alloc | apply pw_below_drewN | apply below_drew1) | exact HB.out))) : w.heap.size ≤ gb561)); clear HB; have HB := n0_; have BK561 := n1_; have GW561 := n2_; have GE561 := n3_; clear n0_ n1_ n2_ n3_; clear hb hbox hg; have hcz3_0 : w2.cell? ⟨gb561, 0, none⟩ = some (.int .i64 a0_0) := (blk_cell BK561.out 0).trans rfl; have hcz3_1 : w2.cell? ⟨gb561, 1, none⟩ = some (.int .i64 a0_1) := (blk_cell BK561.out 1).trans rfl; have hcz3_2 : w2.cell? ⟨gb561, 2, none⟩ = some (.string a0_2) := (blk_cell BK561.out 2).trans rfl; have hfz3_0 := blk_frozen BK561.out 0; have hfz3_1 := blk_frozen BK561.out 1; have hfz3_2 := blk_frozen BK561.out 2) | ((with_reducible refine gate_dst (N := 5) rfl ?_); refine Kf.R_conv _ 5 rfl (N := 5) rfl 9 31 _ rfl a0_2 rfl Try.underlying9 Try.underlying31 Try.underlying5 (Below.refl _ _) (Nat.le_refl _) ?_; intro v563 w4 ho5 hb hg_ hnew_; clear hg_ hnew_; (first | rw [← Ny562.out] at ho5 | (simp only [Int.reduceToNat] at ho5; rw [← Ny562.out] at ho5)); have n0_ := Aside0.mk (Kf.R_lower ho5 (below_size (by repeat (first | (with_reducible first | exact HB.out | apply below_alloc | apply pw_below_drewN | apply below_drew1 | refine below_set ?_ GE561.out) | exact HB.out)))); have n1_ := Aside0.mk (blk_below (g := gb561) (o := .cells #[.int .i64 a0_0, .int .i64 a0_1, .string a0_2] 25 (0, 0)) (by (with_reducible repeat (first | refine blk_drewN ?_ _ | refine blk_drew ?_ | refine blk_alloc ?_ _)); exact BK561.out) hb); have n2_ := Aside0.mk (below_step (by repeat (first | (with_reducible first | exact HB.out | apply below_alloc | apply pw_below_drewN | apply below_drew1 | refine below_set ?_ GE561.out) | exact HB.out)) hb); clear BK561; clear HB; have HO564 := n0_; have BK561 := n1_; have HB := n2_; clear n0_ n1_ n2_; clear hb ho5))
 go_ret
 exact ⟨_, by first | rfl | (simp [errW_none, errW_some] <;> rfl) | (simp [*, errW_none, errW_some] <;> rfl), by (with_reducible repeat (first | apply Kf.R_alloc | apply Kf.R_drewN | apply Kf.R_drew)); exact HO564.out, by repeat (first | (with_reducible first | exact HB.out | apply below_alloc | apply pw_below_drewN | apply below_drew1 | refine below_set ?_ GE561.out) | exact HB.out)⟩

def impl_put.l0 : Nat → Int → Int → List Int → List Int → Int → Int → Int → Int → ByteArray → Option (Int × Int × ByteArray)
 | 0, _, _, _, _, _, _, _, _, _ => none
 | k + 1, x1, x2, x9, x14, x15, x16, x566000, x566001, x566002 => if x16 < x15 then (if 0 ≤ x16 then (if x16 < (x14.length : Int) then (if 0 ≤ (wrap64 ((wrap64 ((wrap64 ((wrap64 (x2 + (wrap64 (Int.tdiv x16 8)))) * x566000)) + x1)) + (Int.tmod x16 8))) then (if (wrap64 ((wrap64 ((wrap64 ((wrap64 (x2 + (wrap64 (Int.tdiv x16 8)))) * x566000)) + x1)) + (Int.tmod x16 8))) < (x9.length : Int) then (impl_put.l0 k x1 x2 (x9.set ((wrap64 ((wrap64 ((wrap64 ((wrap64 (x2 + (wrap64 (Int.tdiv x16 8)))) * x566000)) + x1)) + (Int.tmod x16 8))) : Int).toNat ((rd x14 x16) % 256)) x14 x15 (wrap64 (x16 + 1)) x566000 x566001 x566002) else (none)) else (none)) else (none)) else (none)) else (some (x566000, x566001, strOfNums x9))
def impl_put.f (k : Nat) (a0_0 : Int) (a0_1 : Int) (a0_2 : ByteArray) (a1 : Int) (a2 : Int) (l3 : List Int) : Option (Int × Int × ByteArray) := (impl_dots.f a0_0 a0_1 a0_2).bind fun t567 => (impl_put.l0 k a1 a2 t567 l3 (l3.length : Int) 0 a0_0 a0_1 a0_2)
theorem impl_put.mono_l : ∀ k, (∀ y0 y1 y2 y3 y4 y5 y6 y7 y8, LeO (impl_put.l0 k y0 y1 y2 y3 y4 y5 y6 y7 y8) (impl_put.l0 (k + 1) y0 y1 y2 y3 y4 y5 y6 y7 y8))
 | 0 => fun _ _ _ _ _ _ _ _ _ r h => by simp [impl_put.l0] at h
 | k + 1 => by
  have ih0 := impl_put.mono_l k
  ·intro y0 y1 y2 y3 y4 y5 y6 y7 y8
   unfold impl_put.l0
   repeat' first
   | (with_reducible exact ih0 _ _ _ _ _ _ _ _ _)
   | (with_reducible exact LeO.refl _)
   | (with_reducible exact LeO.none _)
   | (with_reducible refine LeO.ite ?_ ?_)
   | (with_reducible refine LeO.bind ?_ (fun _ => ?_))
   | exact ih0 _ _ _ _ _ _ _ _ _
   | exact LeO.none _
   | refine LeO.ite ?_ ?_
   | refine LeO.bind ?_ (fun _ => ?_)
theorem impl_put.mono : ∀ a0 a1 a2 a3 a4 a5 k, LeO (impl_put.f k a0 a1 a2 a3 a4 a5) (impl_put.f (k + 1) a0 a1 a2 a3 a4 a5) := by
 intro a0 a1 a2 a3 a4 a5 k
 have ih0 := impl_put.mono_l k
 unfold impl_put.f
 repeat' first
   | (with_reducible exact ih0 _ _ _ _ _ _ _ _ _)
   | (with_reducible exact LeO.refl _)
   | (with_reducible exact LeO.none _)
   | (with_reducible refine LeO.ite ?_ ?_)
   | (with_reducible refine LeO.bind ?_ (fun _ => ?_))
   | exact ih0 _ _ _ _ _ _ _ _ _
   | exact LeO.none _
   | refine LeO.ite ?_ ?_
   | refine LeO.bind ?_ (fun _ => ?_)
set_option maxHeartbeats 8000000 in
set_option maxRecDepth 100000 in
theorem impl_put.calls (k : Nat) (a0_0 : Int) (a0_1 : Int) (a0_2 : ByteArray) (a1 : Int) (a2 : Int) (A3 : Option Addr) (c3 : Nat) (l3 : List Int) (r1 : Int) (r2 : Int) (r3 : ByteArray) (w : World) (hr3 : Kd.C (Kd.int .i64) w A3 l3.length l3) (hc3 : l3.length ≤ c3) (h : impl_put.f k a0_0 a0_1 a0_2 a1 a2 l3 = some (r1, r2, r3)) :
  Calls Try.prog 84 #[.agg #[.int .i64 a0_0, .int .i64 a0_1, .string a0_2], .int .i64 a1, .int .i64 a2, .slice A3 l3.length c3] w fun e w' => e = .returned (.agg #[.int .i64 r1, .int .i64 r2, .string r3]) ∧ Below w.heap.size w w' := by
 have hu25 := Try.underlying25
 have HR3 := Aside0.mk hr3
 have HC3 := Aside0.mk hc3
 clear hr3 hc3
 have HB := Aside0.mk (Below.refl w.heap.size w)
 have H : ((impl_dots.f a0_0 a0_1 a0_2).bind fun t567 => (impl_put.l0 k a1 a2 t567 l3 (l3.length : Int) 0 a0_0 a0_1 a0_2)) = some (r1, r2, r3) := h
 clear h
 replace H := Option.bind_eq_some_iff.mp H
 obtain ⟨t567, A50, H⟩ := H
 replace H : (impl_put.l0 k a1 a2 t567 l3 (l3.length : Int) 0 a0_0 a0_1 a0_2) = some (r1, r2, r3) := H
 have A5 := Aside0.mk A50
 clear A50
 have H' := Aside0.mk H
 clear H
 go_enter Try.func84, Try.ntmps84
 go_wp2_with (first | ((with_reducible refine gate_dst (N := 4) rfl ?_); refine box_event ?hg (N := 4) ?hd (cs := #[.int .i64 a0_0, .int .i64 a0_1, .string a0_2]) (t := 25) ?hr ?_; (case hd => rfl); (case hg => rfl); (case hr => first | (go_simp; done) | (go_simp; rfl)); intro gb565 hg w6 hbox hb; have n0_ := Aside0.mk (below_step (by repeat (first | (with_reducible first | exact HB.out | apply below_alloc | apply pw_below_drewN | apply below_drew1) | exact HB.out)) hb); have n1_ := Aside0.mk (hbox); have n2_ := Aside0.mk ((by rw [hg]; exact (below_size (by repeat (first | (with_reducible first | exact HB.out | apply below_alloc | apply pw_below_drewN | apply below_drew1) | exact HB.out))) : w.heap.size ≤ gb565)); have n3_ := Aside0.mk ((by rw [hg]; exact (below_size (by repeat (first | (with_reducible first | exact HB.out | apply below_alloc | apply pw_below_drewN | apply below_drew1) | exact HB.out))) : w.heap.size ≤ gb565)); clear HB; have HB := n0_; have BK565 := n1_; have GW565 := n2_; have GE565 := n3_; clear n0_ n1_ n2_ n3_; clear hb hbox hg) | ((with_reducible refine gate_dst (N := 8) rfl ?_); refine box_event ?hg (N := 8) ?hd (cs := #[.int .i64 0, .int .i64 0, .string (⟨#[]⟩ : ByteArray)]) (t := 25) ?hr ?_; (case hd => rfl); (case hg => rfl); (case hr => first | (go_simp; done) | (go_simp; rfl)); intro gb566 hg w7 hbox hb; have n0_ := Aside0.mk (blk_below (g := gb565) (o := .cells #[.int .i64 a0_0, .int .i64 a0_1, .string a0_2] 25 (0, 0)) (by (with_reducible repeat (first | refine blk_drewN ?_ _ | refine blk_drew ?_ | refine blk_alloc ?_ _)); exact BK565.out) hb); have n1_ := Aside0.mk (below_step (by repeat (first | (with_reducible first | exact HB.out | apply below_alloc | apply pw_below_drewN | apply below_drew1 | refine below_set ?_ GE565.out) | exact HB.out)) hb); have n2_ := Aside0.mk (hbox); have n3_ := Aside0.mk ((by rw [hg]; exact (below_size (by repeat (first | (with_reducible first | exact HB.out | apply below_alloc | apply pw_below_drewN | apply below_drew1 | refine below_set ?_ GE565.out) | exact HB.out))) : w.heap.size ≤ gb566)); have n4_ := Aside0.mk ((by rw [hg]; exact (below_size (by repeat (first | (with_reducible first | exact HB.out | apply below_alloc | apply pw_below_drewN | apply below_drew1 | refine below_set ?_ GE565.out) | exact HB.out))) : w.heap.size ≤ gb566)); have n5_ := Aside0.mk ((by rw [hg]; exact Nat.ne_of_lt (blk_lt (g := gb565) (o := .cells #[.int .i64 a0_0, .int .i64 a0_1, .string a0_2] 25 (0, 0)) (by (with_reducible repeat (first | refine blk_drewN ?_ _ | refine blk_drew ?_ | refine blk_alloc ?_ _)); exact BK565.out)) : gb565 ≠ gb566)); have n6_ := Aside0.mk ((by rw [hg]; exact Nat.ne_of_gt (blk_lt (g := gb565) (o := .cells #[.int .i64 a0_0, .int .i64 a0_1, .string a0_2] 25 (0, 0)) (by (with_reducible repeat (first | refine blk_drewN ?_ _ | refine blk_drew ?_ | refine blk_alloc ?_ _)); exact BK565.out)) : gb566 ≠ gb565)); clear BK565; clear HB; have BK565 := n0_; have HB := n1_; have BK566 := n2_; have GW566 := n3_; have GE566 := n4_; have NB565_566 := n5_; have NB566_565 := n6_; clear n0_ n1_ n2_ n3_ n4_ n5_ n6_; clear hb hbox hg; have hnb8 := NB565_566.out; have hnc8 := NB566_565.out; have hcz9_0 : w7.cell? ⟨gb565, 0, none⟩ = some (.int .i64 a0_0) := (blk_cell BK565.out 0).trans rfl; have hcz9_1 : w7.cell? ⟨gb565, 1, none⟩ = some (.int .i64 a0_1) := (blk_cell BK565.out 1).trans rfl; have hcz9_2 : w7.cell? ⟨gb565, 2, none⟩ = some (.string a0_2) := (blk_cell BK565.out 2).trans rfl; have hfz9_0 := blk_frozen BK565.out 0; have hfz9_1 := blk_frozen BK565.out 1; have hfz9_2 := blk_frozen BK565.out 2) | ((with_reducible refine gate_callee (f := 45) rfl ?_); refine goesL_ (some 13) rfl rfl Try.func45 (by kernel_rfl) rfl #[.agg #[.int .i64 a0_0, .int .i64 a0_1, .string a0_2]] rfl (by (try simp only [List.map_toArray, List.map_cons, List.map_nil]); first | done | rfl | (simp only [List.length_drop, List.length_take]; rfl)) ?_; (with_reducible refine (impl_dots.calls a0_0 a0_1 a0_2 t567 _ A5.out).mono ?_); rintro e w10 ⟨v568, rfl, ho0, hb⟩; refine ⟨_, rfl, ?_⟩; have n0_ := Aside0.mk (Kf.R_lower ho0 (below_size (by repeat (first | (with_reducible first | exact HB.out | apply below_alloc | apply pw_below_drewN | apply below_drew1 | refine below_set ?_ GE565.out | refine below_set ?_ GE566.out) | exact HB.out)))); have n1_ := Aside0.mk (blk_below (g := gb565) (o := .cells #[.int .i64 a0_0, .int .i64 a0_1, .string a0_2] 25 (0, 0)) (by (with_reducible repeat (first | refine blk_drewN ?_ _ | refine blk_drew ?_ | refine blk_alloc ?_ _)); exact BK565.out) hb); have n2_ := Aside0.mk (blk_below (g := gb566) (o := .cells #[.int .i64 0, .int .i64 0, .string (⟨#[]⟩ : ByteArray)] 25 (0, 0)) (by (with_reducible repeat (first | refine blk_drewN ?_ _ | refine blk_drew ?_ | refine blk_alloc ?_ _)); exact BK566.out) hb); have n3_ := Aside0.mk (below_step (by repeat (first | (with_reducible first | exact HB.out | apply below_alloc | apply pw_below_drewN | apply below_drew1 | refine below_set ?_ GE565.out | refine below_set ?_ GE566.out) | exact HB.out)) hb); clear BK565; clear BK566; clear HB; have HO569 := n0_; have BK565 := n1_; have BK566 := n2_; have HB := n3_; clear n0_ n1_ n2_ n3_; (try clear hb); (try clear hb2); (try clear hk); (try clear hi); (try clear ho0)))
 go_loopg [16] k (fun kq v16 w' => ∃ (x9_1 : List Int) (x16_1 : Int), v16 = .int .i64 x16_1 ∧ Aside0 (impl_put.l0 kq a1 a2 x9_1 l3 (l3.length : Int) x16_1 a0_0 a0_1 a0_2 = some (r1, r2, r3)) ∧ Aside0 (kq ≤ k) ∧ Aside0 (Kf 5 w' w.heap.size (fun _ => True) v568 x9_1) ∧ Aside0 (w'.heap[gb565]? = some (.cells #[.int .i64 a0_0, .int .i64 a0_1, .string a0_2] 25 (0, 0))) ∧ Aside0 (w'.heap[gb566]? = some (.cells #[.int .i64 0, .int .i64 0, .string (⟨#[]⟩ : ByteArray)] 25 (0, 0))) ∧ Aside0 (Below w.heap.size w w'))
 case atStart => exact ⟨(t567), (0), (by first | rfl | (simp; done) | (simp [*]; done)), H', ⟨Nat.le_refl _⟩, ⟨by (with_reducible repeat (first | apply Kf.R_alloc | apply Kf.R_drewN | apply Kf.R_drew)); exact HO569.out⟩, ⟨by (with_reducible repeat (first | refine blk_drewN ?_ _ | refine blk_drew ?_ | refine blk_alloc ?_ _)); exact BK565.out⟩, ⟨by (with_reducible repeat (first | refine blk_drewN ?_ _ | refine blk_drew ?_ | refine blk_alloc ?_ _)); exact BK566.out⟩, ⟨by repeat (first | (with_reducible first | exact HB.out | apply below_alloc | apply pw_below_drewN | apply below_drew1 | refine below_set ?_ GE565.out | refine below_set ?_ GE566.out) | exact HB.out)⟩⟩
 case round =>
  clear H'
  try clear p2
  try clear c3
  try clear c4
  try clear c8
  try clear hcz9_0
  try clear hcz9_1
  try clear hcz9_2
  try clear hfz9_0
  try clear hfz9_1
  try clear hfz9_2
  obtain ⟨x9_1, x16_1, rfl, HA, HK1, HO_9, BK565, BK566, HB⟩ := hrel
  cases gk with
  | zero => exact absurd HA.out (by simp [impl_put.l0])
  | succ k1 =>
   have H := HA.out
   clear HA
   simp only [impl_put.l0] at H
   by_cases c11 : x16_1 < (l3.length : Int)
   ·rw [if_pos c11] at H
    have c11b0 : decide (x16_1 < (l3.length : Int)) = true := decide_eq_true c11
    clear c11
    by_cases c12 : 0 ≤ x16_1
    ·rw [if_pos c12] at H
     have c12b0 : decide (0 ≤ x16_1) = true := decide_eq_true c12
     clear c12
     by_cases c13 : x16_1 < (l3.length : Int)
     ·rw [if_pos c13] at H
      have c13b0 : decide (x16_1 < (l3.length : Int)) = true := decide_eq_true c13
      clear c13
      obtain ⟨ji14, hji14⟩ : ∃ j_ : Int, (wrap64 ((wrap64 ((wrap64 ((wrap64 (a2 + (wrap64 (Int.tdiv x16_1 8)))) * a0_0)) + a1)) + (Int.tmod x16_1 8))) = j_ := ⟨_, rfl⟩
      replace H : (if 0 ≤ (ji14) then (if (ji14) < (x9_1.length : Int) then (impl_put.l0 k1 a1 a2 (x9_1.set ((ji14) : Int).toNat ((rd l3 x16_1) % 256)) l3 (l3.length : Int) (wrap64 (x16_1 + 1)) a0_0 a0_1 a0_2) else (none)) else (none)) = some (r1, r2, r3) := by first | (rw [hji14] at H; exact H) | (simp only [hji14] at H ⊢; exact H)
      have hji14w : (IntKind.i64.wrap ((wrap64 ((wrap64 ((wrap64 (a2 + (wrap64 (Int.tdiv x16_1 8)))) * a0_0)) + a1)) + (Int.tmod x16_1 8))) = ji14 := (i64_w _).trans hji14
      by_cases c15 : 0 ≤ (ji14)
      ·rw [if_pos c15] at H
       have c15b0 : decide (0 ≤ (ji14)) = true := decide_eq_true c15
       clear c15
       by_cases c16 : (ji14) < (x9_1.length : Int)
       ·rw [if_pos c16] at H
        have c16b0 : decide ((ji14) < (x9_1.length : Int)) = true := decide_eq_true c16
        clear c16
        obtain ⟨y571, hy571⟩ : ∃ y_ : List Int, y_ = (x9_1.set ((ji14) : Int).toNat ((rd l3 x16_1) % 256)) := ⟨_, rfl⟩
        replace H : (impl_put.l0 k1 a1 a2 y571 l3 (l3.length : Int) (wrap64 (x16_1 + 1)) a0_0 a0_1 a0_2) = some (r1, r2, r3) := by first | (rw [hy571]; with_reducible exact H) | (have H2_ := (Option.bind_some _ _).symm.trans H; rw [hy571]; with_reducible exact H2_) | (have H2_ := (Option.bind_some _ _).symm.trans H; with_reducible exact H2_) | with_reducible exact H | (rw [hy571]; exact H) | exact H
        have Ny571 := Aside0.mk hy571
        clear hy571
        have H' := Aside0.mk H
        clear H
        have p570 : 0 ≤ (x16_1 : Int) := of_decide_eq_true (by first | (with_reducible assumption) | assumption)
        have q570 : x16_1 < (l3.length : Int) := of_decide_eq_true (by first | (with_reducible assumption) | assumption)
        obtain ⟨ad570, e570, hx570_0⟩ := Kd.at_int HR3.out x16_1 p570 q570
        cases e570
        replace hx570_0 := (HB.out.cell (World.block_lt_of_cell? w _ hx570_0)).trans hx570_0
        replace p570 := eq_true p570
        replace q570 := eq_true q570
        have hnb18 := NB565_566.out
        have hnc18 := NB566_565.out
        have hcz19_0 : wr.cell? ⟨gb565, 0, none⟩ = some (.int .i64 a0_0) := (blk_cell BK565.out 0).trans rfl
        have hcz19_1 : wr.cell? ⟨gb565, 1, none⟩ = some (.int .i64 a0_1) := (blk_cell BK565.out 1).trans rfl
        have hcz19_2 : wr.cell? ⟨gb565, 2, none⟩ = some (.string a0_2) := (blk_cell BK565.out 2).trans rfl
        have hfz19_0 := blk_frozen BK565.out 0
        have hfz19_1 := blk_frozen BK565.out 1
        have hfz19_2 := blk_frozen BK565.out 2
        have p17 : 0 ≤ ((ji14) : Int) := of_decide_eq_true (by first | (with_reducible assumption) | assumption)
        have q17 : ((ji14) : Int) < ((x9_1.length : Int) : Int) := of_decide_eq_true (by first | (with_reducible assumption) | assumption)
        obtain ⟨go17, co17, eo17, gb17, gl17, cl17, HG17⟩ := Kf.R_form HO_9.out
        (first | cases eo17 | (injection eo17 with ea_ en_ ec_; (first | subst ea_ | (injection ea_ with ea_; subst ea_)); subst ec_; clear en_))
        have GB17 := Aside0.mk gb17
        have GG17 := Aside0.mk HG17
        clear gb17 gl17 HG17
        obtain ⟨hx17_0, hf17_0⟩ := Kf.R_celln 0 HO_9.out ((ji14) : Int) p17 q17
        replace p17 := eq_true p17
        replace q17 := eq_true q17
        have HP20 := Kf.R_putg HO_9.out ((ji14) : Int) ((rd l3 x16_1) % 256)
        go_wp2_with (first | ((with_reducible refine gate_store (t := 5) (p := 36) rfl ?_); refine store_event (t := 5) (p := 36) (v := ?vo_w21) (w1 := (wr.setCell ⟨go17, ((ji14) : Int).toNat, none⟩ (.int .u8 ((rd l3 x16_1) % 256)))) ?hg ?ho ?hn ?hr ?_; (case ho => rfl); (case hg => rfl); (case hn => rfl); (case hr => first | (go_simp; done) | (go_simp; rfl)); intro w21 hw; have hg : wr.grownBy w21 (some go17) := (by rw [hw]; exact HP20.2); have hp_ : Kf 5 w21 w.heap.size (fun _ => True) (.slice (some ⟨go17, 0, none⟩) x9_1.length co17) y571 := (by rw [hw, Ny571.out]; exact HP20.1); clear HP20; have n0_ := Aside0.mk (hp_); have n1_ := Aside0.mk (blk_grown (g := gb565) (o := .cells #[.int .i64 a0_0, .int .i64 a0_1, .string a0_2] 25 (0, 0)) (by (with_reducible repeat (first | refine blk_drewN ?_ _ | refine blk_drew ?_ | refine blk_alloc ?_ _)); exact BK565.out) hg (Kf.R_ne HO_9.out BK565.out (by decide))); have n2_ := Aside0.mk (blk_grown (g := gb566) (o := .cells #[.int .i64 0, .int .i64 0, .string (⟨#[]⟩ : ByteArray)] 25 (0, 0)) (by (with_reducible repeat (first | refine blk_drewN ?_ _ | refine blk_drew ?_ | refine blk_alloc ?_ _)); exact BK566.out) hg (Kf.R_ne HO_9.out BK566.out (by decide))); have n3_ := Aside0.mk ((by rw [hw]; exact below_set (HB.out) GB17.out : Below w.heap.size w w21)); clear HO_9; clear BK565; clear BK566; clear HB; have HO_9 := n0_; have BK565 := n1_; have BK566 := n2_; have HB := n3_; clear n0_ n1_ n2_ n3_; clear hg hw hp_))
        go_roundg k1
        case measure => have := HK1.out; omega
        case rel => exact ⟨(y571), (wrap64 (x16_1 + 1)), (by first | rfl | (simp; done) | (simp [*]; done)), H', ⟨by have := HK1.out; omega⟩, ⟨by (with_reducible repeat (first | apply Kf.R_alloc | apply Kf.R_drewN | apply Kf.R_drew)); exact HO_9.out⟩, ⟨by (with_reducible repeat (first | refine blk_drewN ?_ _ | refine blk_drew ?_ | refine blk_alloc ?_ _)); exact BK565.out⟩, ⟨by (with_reducible repeat (first | refine blk_drewN ?_ _ | refine blk_drew ?_ | refine blk_alloc ?_ _)); exact BK566.out⟩, ⟨by repeat (first | (with_reducible first | exact HB.out | apply below_alloc | apply pw_below_drewN | apply below_drew1 | refine below_set ?_ GE565.out | refine below_set ?_ GE566.out) | exact HB.out)⟩⟩
       ·rw [if_neg c16] at H
        exact absurd H (by simp)
      ·rw [if_neg c15] at H
       exact absurd H (by simp)
     ·rw [if_neg c13] at H
      exact absurd H (by simp)
    ·rw [if_neg c12] at H
     exact absurd H (by simp)
   ·rw [if_neg c11] at H
    have c11b0 : decide (x16_1 < (l3.length : Int)) = false := decide_eq_false c11
    clear c11
    simp only [Option.some.injEq, Prod.mk.injEq] at H
    obtain ⟨rfl, rfl, rfl⟩ := H
    have hcv22 := Kf.own_string (P := Try.prog) Try.underlying31 Try.underlying5 Try.underlying9 (HO_9.out)
    have hnb23 := NB565_566.out
    have hnc23 := NB566_565.out
    have hcz24_0 : wr.cell? ⟨gb565, 0, none⟩ = some (.int .i64 a0_0) := (blk_cell BK565.out 0).trans rfl
    have hcz24_1 : wr.cell? ⟨gb565, 1, none⟩ = some (.int .i64 a0_1) := (blk_cell BK565.out 1).trans rfl
    have hcz24_2 : wr.cell? ⟨gb565, 2, none⟩ = some (.string a0_2) := (blk_cell BK565.out 2).trans rfl
    have hfz24_0 := blk_frozen BK565.out 0
    have hfz24_1 := blk_frozen BK565.out 1
    have hfz24_2 := blk_frozen BK565.out 2
    have hcz25_0 : wr.cell? ⟨gb566, 0, none⟩ = some (.int .i64 0) := (blk_cell BK566.out 0).trans rfl
    have hcz25_1 : wr.cell? ⟨gb566, 1, none⟩ = some (.int .i64 0) := (blk_cell BK566.out 1).trans rfl
    have hcz25_2 : wr.cell? ⟨gb566, 2, none⟩ = some (.string (⟨#[]⟩ : ByteArray)) := (blk_cell BK566.out 2).trans rfl
    have hfz25_0 := blk_frozen BK566.out 0
    have hfz25_1 := blk_frozen BK566.out 1
    have hfz25_2 := blk_frozen BK566.out 2
    go_wp2
    refine bodyPost_ret (results_cell_row rfl _ _ gb566 25 #[.int .i64 a0_0, .int .i64 a0_1, .string (strOfNums x9_1)] (0, 0) _ rfl (by (with_reducible repeat (first | refine blk_drewN ?_ _ | refine blk_drew ?_ | refine blk_alloc ?_ _)); refine blk_put (cs := #[.int .i64 a0_0, .int .i64 a0_1, .string (⟨#[]⟩ : ByteArray)]) ?_ 2 _ rfl; (with_reducible repeat (first | refine blk_drewN ?_ _ | refine blk_drew ?_ | refine blk_alloc ?_ _)); refine blk_put (cs := #[.int .i64 a0_0, .int .i64 0, .string (⟨#[]⟩ : ByteArray)]) ?_ 1 _ rfl; (with_reducible repeat (first | refine blk_drewN ?_ _ | refine blk_drew ?_ | refine blk_alloc ?_ _)); refine blk_put (cs := #[.int .i64 0, .int .i64 0, .string (⟨#[]⟩ : ByteArray)]) ?_ 0 _ rfl; (with_reducible repeat (first | refine blk_drewN ?_ _ | refine blk_drew ?_ | refine blk_alloc ?_ _)); refine blk_far ?_ NB566_565.out _; (with_reducible repeat (first | refine blk_drewN ?_ _ | refine blk_drew ?_ | refine blk_alloc ?_ _)); exact BK566.out) Try.underlying25 rfl (by kernel_rfl)) rfl ?_
    exact ⟨by first | rfl | (simp [errW_none, errW_some] <;> rfl) | (simp [*, errW_none, errW_some] <;> rfl), by repeat (first | (with_reducible first | exact HB.out | apply below_alloc | apply pw_below_drewN | apply below_drew1 | refine below_set ?_ GE565.out | refine below_set ?_ GE566.out) | exact HB.out)⟩

end Go.Proofs.Ytnaccgommclhaaa.QFnSkips
