/- What the law reaches, as plain functions, each with the proof that its call comes to its answer: written by a program for this claim. -/
import Derived.Test.YtnaccgommclhaaaQFnSkipsx0
import Derived.Test.YtnaccgommclhaaaQFnSkipsx2
import Derived.Test.YtnaccgommclhaaaQFnSkipsx3
import Derived.Test.YtnaccgommclhaaaQFnSkipsx4
namespace Go.Proofs.Ytnaccgommclhaaa.QFnSkips
open Go.RowKit Go.Proofs.YtnaccgommclhaaaW.PrintWords Go.Proofs.YtnaccgommclhaaaW.PrintLast Go.Proofs.YtnaccgommclhaaaW.PrintMore Go.Proofs.YtnaccgommclhaaaV
attribute [local go_sem] max2_int min2_int max_two min_two max_three min_three max_four min_four   -- for this text's walks alone
set_option linter.unusedVariables false
set_option linter.unusedSimpArgs false

def spec_l16Drawn.f (k : Nat) (s0_0 : List Int) (s0_1 : Int) (s0_2 : Int) : Option (Int × Int × ByteArray × Int × Int × Int × Int × Bool × Int × Bool × Bool × Bool × (List (S63)) × Int × Int) := (spec_l01Below.f s0_0 s0_1 s0_2 2).bind fun bt269 => ((spec_l01Below.f s0_0 bt269.2.1 bt269.2.2 2).bind fun bt272 => ((spec_l01Below.f s0_0 bt272.2.1 bt272.2.2 2).bind fun bt275 => ((spec_l01Below.f s0_0 bt275.2.1 bt275.2.2 2).bind fun bt278 => ((spec_l01Below.f s0_0 bt278.2.1 bt278.2.2 2).bind fun bt282 => ((spec_l01Below.f s0_0 bt282.2.1 bt282.2.2 5).bind fun bt285 => ((spec_l12Sized.f k s0_0 bt285.2.1 bt285.2.2 (wrap64 ((wrap64 ((wrap64 (8 * bt269.1)) + (wrap64 (8 + (wrap64 (8 * bt275.1)))))) + (wrap64 (8 * bt282.1)))) (wrap64 ((wrap64 ((wrap64 (8 * bt272.1)) + (wrap64 (8 + (wrap64 (8 * bt278.1)))))) + bt285.1))).bind fun bt288 => ((spec_l14Cond.f s0_0 bt288.2.2.2.1 bt288.2.2.2.2).bind fun bt294 => ((spec_l01Once.f s0_0 bt294.2.2.2.2.1 bt294.2.2.2.2.2 3).bind fun bt301 => ((spec_l16Squares.f k s0_0 bt301.2.1 bt301.2.2 (wrap64 ((wrap64 (Int.tdiv (wrap64 (8 + (wrap64 (8 * bt275.1)))) 8)) * (wrap64 (Int.tdiv (wrap64 (8 + (wrap64 (8 * bt278.1)))) 8)))) bt294.1 bt294.2.1 bt294.2.2.1 bt294.2.2.2.1).bind fun bt304 => (some (bt288.1, bt288.2.1, bt288.2.2.1, wrap64 (8 * bt269.1), wrap64 (8 * bt272.1), wrap64 (8 + (wrap64 (8 * bt275.1))), wrap64 (8 + (wrap64 (8 * bt278.1))), bt294.1, bt294.2.1, bt294.2.2.1, bt294.2.2.2.1, !bt301.1, bt304.1, bt304.2.1, bt304.2.2)))))))))))
theorem spec_l16Drawn.mono : ∀ a0 a1 a2 k, LeO (spec_l16Drawn.f k a0 a1 a2) (spec_l16Drawn.f (k + 1) a0 a1 a2) := by
 intro a0 a1 a2 k
 unfold spec_l16Drawn.f
 repeat' first
   | (with_reducible exact spec_l12Sized.mono _ _ _ _ _ _)
   | (with_reducible exact spec_l16Squares.mono _ _ _ _ _ _ _ _ _)
   | (with_reducible exact LeO.refl _)
   | (with_reducible exact LeO.none _)
   | (with_reducible refine LeO.ite ?_ ?_)
   | (with_reducible refine LeO.bind ?_ (fun _ => ?_))
   | exact spec_l12Sized.mono _ _ _ _ _ _
   | exact spec_l16Squares.mono _ _ _ _ _ _ _ _ _
   | exact LeO.none _
   | refine LeO.ite ?_ ?_
   | refine LeO.bind ?_ (fun _ => ?_)
def spec_l16Drawn.T2 : Bool × List (List Nat × List Nat) := (true, [([], []), ([], []), ([1], [1]), ([], []), ([3], [3]), ([2, 4], [2, 4]), ([], []), ([6], [6]), ([7], [7]), ([5, 8], [5, 8]), ([], []), ([10], [10]), ([], []), ([12], [12]), ([11, 13], [11, 13]), ([], []), ([15, 7], [15]), ([14, 16], [14, 16]), ([0, 9, 17, 16], [0, 9, 17]), ([], []), ([19, 18, 18, 0, 1, 2, 3, 4, 5, 6, 7, 8, 9, 10, 11, 12, 13, 14, 15, 16, 17, 18, 19], [18, 19])])
def spec_l16Drawn.B2 : List Nat := [0, 0, 2, 0, 8, 30, 0, 64, 192, 510, 0, 1024, 0, 4096, 15360, 0, 32960, 130240, 262143, 0, 1048575]
theorem spec_l16Drawn.tab2 : rtab .any (opsOf Try.f81 2) = spec_l16Drawn.T2 := by kernel_rfl
theorem spec_l16Drawn.bits2 : waitsOk spec_l16Drawn.T2.2 spec_l16Drawn.B2 = true := by kernel_rfl
def spec_l16Drawn.T4 : Bool × List (List Nat × List Nat) := (true, [([], []), ([], []), ([], []), ([], []), ([3], [3]), ([4], [4]), ([], []), ([], []), ([7], [7]), ([8], [8]), ([], []), ([10], [10]), ([11], [11]), ([9, 12], [9, 12]), ([], []), ([6, 13, 14, 4], [6, 13, 14]), ([0, 15, 0], [0]), ([1, 16, 0, 1, 16], [1]), ([2, 17, 0, 1, 2, 16, 17], [2]), ([5, 18, 0, 1, 2, 3, 4, 5, 16, 17, 18], [5]), ([15, 19, 0, 1, 2, 3, 4, 5, 6, 7, 8, 9, 10, 11, 12, 13, 14, 15, 16, 17, 18, 19], [15])])
def spec_l16Drawn.B4 : List Nat := [0, 0, 0, 0, 8, 24, 0, 0, 128, 384, 0, 1024, 3072, 8064, 0, 32728, 65497, 131035, 262111, 524287, 1048575]
theorem spec_l16Drawn.tab4 : rtab .any (opsOf Try.f81 4) = spec_l16Drawn.T4 := by kernel_rfl
theorem spec_l16Drawn.bits4 : waitsOk spec_l16Drawn.T4.2 spec_l16Drawn.B4 = true := by kernel_rfl
set_option maxHeartbeats 8000000 in
set_option maxRecDepth 100000 in
theorem spec_l16Drawn.calls (k : Nat) (g : Nat) (s0_0 : List Int) (s0_1 : Int) (s0_2 : Int) (r1 : Int) (r2 : Int) (r3 : ByteArray) (r4 : Int) (r5 : Int) (r6 : Int) (r7 : Int) (r8 : Bool) (r9 : Int) (r10 : Bool) (r11 : Bool) (r12 : Bool) (r13 : List (S63)) (r14 : Int) (r15 : Int) (w0 w : World) (hI : IsS116 w0 w g s0_0 s0_1 s0_2) (hB : Below w0.heap.size w0 w) (h : spec_l16Drawn.f k s0_0 s0_1 s0_2 = some (r1, r2, r3, r4, r5, r6, r7, r8, r9, r10, r11, r12, r13, r14, r15)) :
  Calls Try.prog 81 #[.pointer (some ⟨g, 0, none⟩)] w fun e w' => ∃ v12_ : Value, e = .returned (.tuple #[.agg #[.int .i64 r1, .int .i64 r2, .string r3], .agg #[.int .i64 r4, .int .i64 r5, .int .i64 r6, .int .i64 r7], .agg #[.bool r8, .int .i64 r9, .bool r10, .bool r11], .bool r12, v12_]) ∧ Kd.S k63 63 w' w.heap.size (fun _ => True) v12_ r13 ∧ IsS116 w0 w' g s0_0 r14 r15 ∧ Below w0.heap.size w0 w' ∧ KeepBut w w' g none := by
 have hu25 := Try.underlying25
 have hu38 := Try.underlying38
 have hu50 := Try.underlying50
 have HI0 := Aside0.mk hI
 have HK := Aside0.mk (KeepBut.refl w g none)
 have HL := Aside0.mk hB.size
 clear hI
 have HW0 := Aside0.mk hB.size
 have HB := Aside0.mk hB
 clear hB
 have H : ((spec_l01Below.f s0_0 s0_1 s0_2 2).bind fun bt269 => ((spec_l01Below.f s0_0 bt269.2.1 bt269.2.2 2).bind fun bt272 => ((spec_l01Below.f s0_0 bt272.2.1 bt272.2.2 2).bind fun bt275 => ((spec_l01Below.f s0_0 bt275.2.1 bt275.2.2 2).bind fun bt278 => ((spec_l01Below.f s0_0 bt278.2.1 bt278.2.2 2).bind fun bt282 => ((spec_l01Below.f s0_0 bt282.2.1 bt282.2.2 5).bind fun bt285 => ((spec_l12Sized.f k s0_0 bt285.2.1 bt285.2.2 (wrap64 ((wrap64 ((wrap64 (8 * bt269.1)) + (wrap64 (8 + (wrap64 (8 * bt275.1)))))) + (wrap64 (8 * bt282.1)))) (wrap64 ((wrap64 ((wrap64 (8 * bt272.1)) + (wrap64 (8 + (wrap64 (8 * bt278.1)))))) + bt285.1))).bind fun bt288 => ((spec_l14Cond.f s0_0 bt288.2.2.2.1 bt288.2.2.2.2).bind fun bt294 => ((spec_l01Once.f s0_0 bt294.2.2.2.2.1 bt294.2.2.2.2.2 3).bind fun bt301 => ((spec_l16Squares.f k s0_0 bt301.2.1 bt301.2.2 (wrap64 ((wrap64 (Int.tdiv (wrap64 (8 + (wrap64 (8 * bt275.1)))) 8)) * (wrap64 (Int.tdiv (wrap64 (8 + (wrap64 (8 * bt278.1)))) 8)))) bt294.1 bt294.2.1 bt294.2.2.1 bt294.2.2.2.1).bind fun bt304 => (some (bt288.1, bt288.2.1, bt288.2.2.1, wrap64 (8 * bt269.1), wrap64 (8 * bt272.1), wrap64 (8 + (wrap64 (8 * bt275.1))), wrap64 (8 + (wrap64 (8 * bt278.1))), bt294.1, bt294.2.1, bt294.2.2.1, bt294.2.2.2.1, !bt301.1, bt304.1, bt304.2.1, bt304.2.2)))))))))))) = some (r1, r2, r3, r4, r5, r6, r7, r8, r9, r10, r11, r12, r13, r14, r15) := h
 clear h
 replace H := Option.bind_eq_some_iff.mp H
 obtain ⟨⟨t269, t270, t271⟩, A20, H⟩ := H
 replace H : ((spec_l01Below.f s0_0 t270 t271 2).bind fun bt272 => ((spec_l01Below.f s0_0 bt272.2.1 bt272.2.2 2).bind fun bt275 => ((spec_l01Below.f s0_0 bt275.2.1 bt275.2.2 2).bind fun bt278 => ((spec_l01Below.f s0_0 bt278.2.1 bt278.2.2 2).bind fun bt282 => ((spec_l01Below.f s0_0 bt282.2.1 bt282.2.2 5).bind fun bt285 => ((spec_l12Sized.f k s0_0 bt285.2.1 bt285.2.2 (wrap64 ((wrap64 ((wrap64 (8 * t269)) + (wrap64 (8 + (wrap64 (8 * bt275.1)))))) + (wrap64 (8 * bt282.1)))) (wrap64 ((wrap64 ((wrap64 (8 * bt272.1)) + (wrap64 (8 + (wrap64 (8 * bt278.1)))))) + bt285.1))).bind fun bt288 => ((spec_l14Cond.f s0_0 bt288.2.2.2.1 bt288.2.2.2.2).bind fun bt294 => ((spec_l01Once.f s0_0 bt294.2.2.2.2.1 bt294.2.2.2.2.2 3).bind fun bt301 => ((spec_l16Squares.f k s0_0 bt301.2.1 bt301.2.2 (wrap64 ((wrap64 (Int.tdiv (wrap64 (8 + (wrap64 (8 * bt275.1)))) 8)) * (wrap64 (Int.tdiv (wrap64 (8 + (wrap64 (8 * bt278.1)))) 8)))) bt294.1 bt294.2.1 bt294.2.2.1 bt294.2.2.2.1).bind fun bt304 => (some (bt288.1, bt288.2.1, bt288.2.2.1, wrap64 (8 * t269), wrap64 (8 * bt272.1), wrap64 (8 + (wrap64 (8 * bt275.1))), wrap64 (8 + (wrap64 (8 * bt278.1))), bt294.1, bt294.2.1, bt294.2.2.1, bt294.2.2.2.1, !bt301.1, bt304.1, bt304.2.1, bt304.2.2))))))))))) = some (r1, r2, r3, r4, r5, r6, r7, r8, r9, r10, r11, r12, r13, r14, r15) := H
 have A2 := Aside0.mk A20
 clear A20
 replace H := Option.bind_eq_some_iff.mp H
 obtain ⟨⟨t272, t273, t274⟩, A30, H⟩ := H
 replace H : ((spec_l01Below.f s0_0 t273 t274 2).bind fun bt275 => ((spec_l01Below.f s0_0 bt275.2.1 bt275.2.2 2).bind fun bt278 => ((spec_l01Below.f s0_0 bt278.2.1 bt278.2.2 2).bind fun bt282 => ((spec_l01Below.f s0_0 bt282.2.1 bt282.2.2 5).bind fun bt285 => ((spec_l12Sized.f k s0_0 bt285.2.1 bt285.2.2 (wrap64 ((wrap64 ((wrap64 (8 * t269)) + (wrap64 (8 + (wrap64 (8 * bt275.1)))))) + (wrap64 (8 * bt282.1)))) (wrap64 ((wrap64 ((wrap64 (8 * t272)) + (wrap64 (8 + (wrap64 (8 * bt278.1)))))) + bt285.1))).bind fun bt288 => ((spec_l14Cond.f s0_0 bt288.2.2.2.1 bt288.2.2.2.2).bind fun bt294 => ((spec_l01Once.f s0_0 bt294.2.2.2.2.1 bt294.2.2.2.2.2 3).bind fun bt301 => ((spec_l16Squares.f k s0_0 bt301.2.1 bt301.2.2 (wrap64 ((wrap64 (Int.tdiv (wrap64 (8 + (wrap64 (8 * bt275.1)))) 8)) * (wrap64 (Int.tdiv (wrap64 (8 + (wrap64 (8 * bt278.1)))) 8)))) bt294.1 bt294.2.1 bt294.2.2.1 bt294.2.2.2.1).bind fun bt304 => (some (bt288.1, bt288.2.1, bt288.2.2.1, wrap64 (8 * t269), wrap64 (8 * t272), wrap64 (8 + (wrap64 (8 * bt275.1))), wrap64 (8 + (wrap64 (8 * bt278.1))), bt294.1, bt294.2.1, bt294.2.2.1, bt294.2.2.2.1, !bt301.1, bt304.1, bt304.2.1, bt304.2.2)))))))))) = some (r1, r2, r3, r4, r5, r6, r7, r8, r9, r10, r11, r12, r13, r14, r15) := H
 have A3 := Aside0.mk A30
 clear A30
 replace H := Option.bind_eq_some_iff.mp H
 obtain ⟨⟨t275, t276, t277⟩, A40, H⟩ := H
 replace H : ((spec_l01Below.f s0_0 t276 t277 2).bind fun bt278 => ((spec_l01Below.f s0_0 bt278.2.1 bt278.2.2 2).bind fun bt282 => ((spec_l01Below.f s0_0 bt282.2.1 bt282.2.2 5).bind fun bt285 => ((spec_l12Sized.f k s0_0 bt285.2.1 bt285.2.2 (wrap64 ((wrap64 ((wrap64 (8 * t269)) + (wrap64 (8 + (wrap64 (8 * t275)))))) + (wrap64 (8 * bt282.1)))) (wrap64 ((wrap64 ((wrap64 (8 * t272)) + (wrap64 (8 + (wrap64 (8 * bt278.1)))))) + bt285.1))).bind fun bt288 => ((spec_l14Cond.f s0_0 bt288.2.2.2.1 bt288.2.2.2.2).bind fun bt294 => ((spec_l01Once.f s0_0 bt294.2.2.2.2.1 bt294.2.2.2.2.2 3).bind fun bt301 => ((spec_l16Squares.f k s0_0 bt301.2.1 bt301.2.2 (wrap64 ((wrap64 (Int.tdiv (wrap64 (8 + (wrap64 (8 * t275)))) 8)) * (wrap64 (Int.tdiv (wrap64 (8 + (wrap64 (8 * bt278.1)))) 8)))) bt294.1 bt294.2.1 bt294.2.2.1 bt294.2.2.2.1).bind fun bt304 => (some (bt288.1, bt288.2.1, bt288.2.2.1, wrap64 (8 * t269), wrap64 (8 * t272), wrap64 (8 + (wrap64 (8 * t275))), wrap64 (8 + (wrap64 (8 * bt278.1))), bt294.1, bt294.2.1, bt294.2.2.1, bt294.2.2.2.1, !bt301.1, bt304.1, bt304.2.1, bt304.2.2))))))))) = some (r1, r2, r3, r4, r5, r6, r7, r8, r9, r10, r11, r12, r13, r14, r15) := H
 have A4 := Aside0.mk A40
 clear A40
 replace H := Option.bind_eq_some_iff.mp H
 obtain ⟨⟨t278, t279, t280⟩, A50, H⟩ := H
 replace H : ((spec_l01Below.f s0_0 t279 t280 2).bind fun bt282 => ((spec_l01Below.f s0_0 bt282.2.1 bt282.2.2 5).bind fun bt285 => ((spec_l12Sized.f k s0_0 bt285.2.1 bt285.2.2 (wrap64 ((wrap64 ((wrap64 (8 * t269)) + (wrap64 (8 + (wrap64 (8 * t275)))))) + (wrap64 (8 * bt282.1)))) (wrap64 ((wrap64 ((wrap64 (8 * t272)) + (wrap64 (8 + (wrap64 (8 * t278)))))) + bt285.1))).bind fun bt288 => ((spec_l14Cond.f s0_0 bt288.2.2.2.1 bt288.2.2.2.2).bind fun bt294 => ((spec_l01Once.f s0_0 bt294.2.2.2.2.1 bt294.2.2.2.2.2 3).bind fun bt301 => ((spec_l16Squares.f k s0_0 bt301.2.1 bt301.2.2 (wrap64 ((wrap64 (Int.tdiv (wrap64 (8 + (wrap64 (8 * t275)))) 8)) * (wrap64 (Int.tdiv (wrap64 (8 + (wrap64 (8 * t278)))) 8)))) bt294.1 bt294.2.1 bt294.2.2.1 bt294.2.2.2.1).bind fun bt304 => (some (bt288.1, bt288.2.1, bt288.2.2.1, wrap64 (8 * t269), wrap64 (8 * t272), wrap64 (8 + (wrap64 (8 * t275))), wrap64 (8 + (wrap64 (8 * t278))), bt294.1, bt294.2.1, bt294.2.2.1, bt294.2.2.2.1, !bt301.1, bt304.1, bt304.2.1, bt304.2.2)))))))) = some (r1, r2, r3, r4, r5, r6, r7, r8, r9, r10, r11, r12, r13, r14, r15) := H
 have A5 := Aside0.mk A50
 clear A50
 replace H := Option.bind_eq_some_iff.mp H
 obtain ⟨⟨t282, t283, t284⟩, A60, H⟩ := H
 replace H : ((spec_l01Below.f s0_0 t283 t284 5).bind fun bt285 => ((spec_l12Sized.f k s0_0 bt285.2.1 bt285.2.2 (wrap64 ((wrap64 ((wrap64 (8 * t269)) + (wrap64 (8 + (wrap64 (8 * t275)))))) + (wrap64 (8 * t282)))) (wrap64 ((wrap64 ((wrap64 (8 * t272)) + (wrap64 (8 + (wrap64 (8 * t278)))))) + bt285.1))).bind fun bt288 => ((spec_l14Cond.f s0_0 bt288.2.2.2.1 bt288.2.2.2.2).bind fun bt294 => ((spec_l01Once.f s0_0 bt294.2.2.2.2.1 bt294.2.2.2.2.2 3).bind fun bt301 => ((spec_l16Squares.f k s0_0 bt301.2.1 bt301.2.2 (wrap64 ((wrap64 (Int.tdiv (wrap64 (8 + (wrap64 (8 * t275)))) 8)) * (wrap64 (Int.tdiv (wrap64 (8 + (wrap64 (8 * t278)))) 8)))) bt294.1 bt294.2.1 bt294.2.2.1 bt294.2.2.2.1).bind fun bt304 => (some (bt288.1, bt288.2.1, bt288.2.2.1, wrap64 (8 * t269), wrap64 (8 * t272), wrap64 (8 + (wrap64 (8 * t275))), wrap64 (8 + (wrap64 (8 * t278))), bt294.1, bt294.2.1, bt294.2.2.1, bt294.2.2.2.1, !bt301.1, bt304.1, bt304.2.1, bt304.2.2))))))) = some (r1, r2, r3, r4, r5, r6, r7, r8, r9, r10, r11, r12, r13, r14, r15) := H
 have A6 := Aside0.mk A60
 clear A60
 replace H := Option.bind_eq_some_iff.mp H
 obtain ⟨⟨t285, t286, t287⟩, A70, H⟩ := H
 replace H : ((spec_l12Sized.f k s0_0 t286 t287 (wrap64 ((wrap64 ((wrap64 (8 * t269)) + (wrap64 (8 + (wrap64 (8 * t275)))))) + (wrap64 (8 * t282)))) (wrap64 ((wrap64 ((wrap64 (8 * t272)) + (wrap64 (8 + (wrap64 (8 * t278)))))) + t285))).bind fun bt288 => ((spec_l14Cond.f s0_0 bt288.2.2.2.1 bt288.2.2.2.2).bind fun bt294 => ((spec_l01Once.f s0_0 bt294.2.2.2.2.1 bt294.2.2.2.2.2 3).bind fun bt301 => ((spec_l16Squares.f k s0_0 bt301.2.1 bt301.2.2 (wrap64 ((wrap64 (Int.tdiv (wrap64 (8 + (wrap64 (8 * t275)))) 8)) * (wrap64 (Int.tdiv (wrap64 (8 + (wrap64 (8 * t278)))) 8)))) bt294.1 bt294.2.1 bt294.2.2.1 bt294.2.2.2.1).bind fun bt304 => (some (bt288.1, bt288.2.1, bt288.2.2.1, wrap64 (8 * t269), wrap64 (8 * t272), wrap64 (8 + (wrap64 (8 * t275))), wrap64 (8 + (wrap64 (8 * t278))), bt294.1, bt294.2.1, bt294.2.2.1, bt294.2.2.2.1, !bt301.1, bt304.1, bt304.2.1, bt304.2.2)))))) = some (r1, r2, r3, r4, r5, r6, r7, r8, r9, r10, r11, r12, r13, r14, r15) := H
 have A7 := Aside0.mk A70
 clear A70
 replace H := Option.bind_eq_some_iff.mp H
 obtain ⟨⟨t288, t289, t290, t291, t292⟩, A80, H⟩ := H
 replace H : ((spec_l14Cond.f s0_0 t291 t292).bind fun bt294 => ((spec_l01Once.f s0_0 bt294.2.2.2.2.1 bt294.2.2.2.2.2 3).bind fun bt301 => ((spec_l16Squares.f k s0_0 bt301.2.1 bt301.2.2 (wrap64 ((wrap64 (Int.tdiv (wrap64 (8 + (wrap64 (8 * t275)))) 8)) * (wrap64 (Int.tdiv (wrap64 (8 + (wrap64 (8 * t278)))) 8)))) bt294.1 bt294.2.1 bt294.2.2.1 bt294.2.2.2.1).bind fun bt304 => (some (t288, t289, t290, wrap64 (8 * t269), wrap64 (8 * t272), wrap64 (8 + (wrap64 (8 * t275))), wrap64 (8 + (wrap64 (8 * t278))), bt294.1, bt294.2.1, bt294.2.2.1, bt294.2.2.2.1, !bt301.1, bt304.1, bt304.2.1, bt304.2.2))))) = some (r1, r2, r3, r4, r5, r6, r7, r8, r9, r10, r11, r12, r13, r14, r15) := H
 have A8 := Aside0.mk A80
 clear A80
 replace H := Option.bind_eq_some_iff.mp H
 obtain ⟨⟨t294, t295, t296, t297, t298, t299⟩, A90, H⟩ := H
 replace H : ((spec_l01Once.f s0_0 t298 t299 3).bind fun bt301 => ((spec_l16Squares.f k s0_0 bt301.2.1 bt301.2.2 (wrap64 ((wrap64 (Int.tdiv (wrap64 (8 + (wrap64 (8 * t275)))) 8)) * (wrap64 (Int.tdiv (wrap64 (8 + (wrap64 (8 * t278)))) 8)))) t294 t295 t296 t297).bind fun bt304 => (some (t288, t289, t290, wrap64 (8 * t269), wrap64 (8 * t272), wrap64 (8 + (wrap64 (8 * t275))), wrap64 (8 + (wrap64 (8 * t278))), t294, t295, t296, t297, !bt301.1, bt304.1, bt304.2.1, bt304.2.2)))) = some (r1, r2, r3, r4, r5, r6, r7, r8, r9, r10, r11, r12, r13, r14, r15) := H
 have A9 := Aside0.mk A90
 clear A90
 replace H := Option.bind_eq_some_iff.mp H
 obtain ⟨⟨t301, t302, t303⟩, A100, H⟩ := H
 replace H : ((spec_l16Squares.f k s0_0 t302 t303 (wrap64 ((wrap64 (Int.tdiv (wrap64 (8 + (wrap64 (8 * t275)))) 8)) * (wrap64 (Int.tdiv (wrap64 (8 + (wrap64 (8 * t278)))) 8)))) t294 t295 t296 t297).bind fun bt304 => (some (t288, t289, t290, wrap64 (8 * t269), wrap64 (8 * t272), wrap64 (8 + (wrap64 (8 * t275))), wrap64 (8 + (wrap64 (8 * t278))), t294, t295, t296, t297, !t301, bt304.1, bt304.2.1, bt304.2.2))) = some (r1, r2, r3, r4, r5, r6, r7, r8, r9, r10, r11, r12, r13, r14, r15) := H
 have A10 := Aside0.mk A100
 clear A100
 replace H := Option.bind_eq_some_iff.mp H
 obtain ⟨⟨t304, t307, t308⟩, A110, H⟩ := H
 replace H : (some (t288, t289, t290, wrap64 (8 * t269), wrap64 (8 * t272), wrap64 (8 + (wrap64 (8 * t275))), wrap64 (8 + (wrap64 (8 * t278))), t294, t295, t296, t297, !t301, t304, t307, t308)) = some (r1, r2, r3, r4, r5, r6, r7, r8, r9, r10, r11, r12, r13, r14, r15) := H
 have A11 := Aside0.mk A110
 clear A110
 simp only [Option.some.injEq, Prod.mk.injEq] at H
 obtain ⟨rfl, rfl, rfl, rfl, rfl, rfl, rfl, rfl, rfl, rfl, rfl, rfl, rfl, rfl, rfl⟩ := H
 go_enter Try.func81, Try.ntmps81
 try go_wp2_with (first | ((with_reducible refine gate_dst (N := 2) rfl ?_); refine box_event ?hg (N := 2) ?hd (cs := #[.int .i64 0, .int .i64 0, .string (⟨#[]⟩ : ByteArray)]) (t := 25) ?hr ?_; (case hd => rfl); (case hg => rfl); (case hr => first | (go_simp; done) | (go_simp; rfl)); intro gb266 hg w12 hbox hb; have n0_ := Aside0.mk (IsS116.below (by repeat (first | (with_reducible first | exact HI0.out | apply IsS116.alloc | apply IsS116.drewN | apply IsS116.drew | apply IsS116.set_1 | apply IsS116.set_2) | exact HI0.out)) hb); have n1_ := Aside0.mk (KeepBut.trans (by repeat (first | (with_reducible first | exact HK.out | apply KeepBut.set_ | apply keep_drewN | apply keep_drew | apply keep_alloc) | exact HK.out)) (KeepBut.of_below hb g none) (.inl rfl)); have n2_ := Aside0.mk (below_step (by repeat (first | (with_reducible first | exact HB.out | apply below_alloc | apply pw_below_drewN | apply below_drew1 | refine below_set ?_ (IsS116.ge HI0.out)) | exact HB.out)) hb); have n3_ := Aside0.mk (hbox); have n4_ := Aside0.mk ((by rw [hg]; exact (keep_size (w := w) (g := g) (row := none) (by repeat (first | (with_reducible first | exact HK.out | apply KeepBut.set_ | apply keep_drewN | apply keep_drew | apply keep_alloc) | exact HK.out))) : w.heap.size ≤ gb266)); have n5_ := Aside0.mk ((Nat.le_trans HW0.out (by rw [hg]; exact (keep_size (w := w) (g := g) (row := none) (by repeat (first | (with_reducible first | exact HK.out | apply KeepBut.set_ | apply keep_drewN | apply keep_drew | apply keep_alloc) | exact HK.out))) : w.heap.size ≤ gb266) : w0.heap.size ≤ gb266)); have n6_ := Aside0.mk ((by rw [hg]; exact Nat.ne_of_lt (IsS116.lt (show IsS116 w0 _ g s0_0 s0_1 s0_2 from by repeat (first | (with_reducible first | exact HI0.out | apply IsS116.alloc | apply IsS116.drewN | apply IsS116.drew | apply IsS116.set_1 | apply IsS116.set_2) | exact HI0.out))) : g ≠ gb266)); have n7_ := Aside0.mk ((by rw [hg]; exact Nat.ne_of_gt (IsS116.lt (show IsS116 w0 _ g s0_0 s0_1 s0_2 from by repeat (first | (with_reducible first | exact HI0.out | apply IsS116.alloc | apply IsS116.drewN | apply IsS116.drew | apply IsS116.set_1 | apply IsS116.set_2) | exact HI0.out))) : gb266 ≠ g)); clear HI0; clear HK; clear HB; have HI0 := n0_; have HK := n1_; have HB := n2_; have BK266 := n3_; have GW266 := n4_; have GE266 := n5_; have NB0_266 := n6_; have NB266_0 := n7_; clear n0_ n1_ n2_ n3_ n4_ n5_ n6_ n7_; clear hb hbox hg) | ((with_reducible refine gate_dst (N := 3) rfl ?_); refine box_event ?hg (N := 3) ?hd (cs := #[.int .i64 0, .int .i64 0, .int .i64 0, .int .i64 0]) (t := 38) ?hr ?_; (case hd => rfl); (case hg => rfl); (case hr => first | (go_simp; done) | (go_simp; rfl)); intro gb267 hg w13 hbox hb; have n0_ := Aside0.mk (IsS116.below (by repeat (first | (with_reducible first | exact HI0.out | apply IsS116.alloc | apply IsS116.drewN | apply IsS116.drew | apply IsS116.set_1 | apply IsS116.set_2 | refine IsS116.far ?_ NB0_266.out _) | exact HI0.out)) hb); have n1_ := Aside0.mk (blk_below (g := gb266) (o := .cells #[.int .i64 0, .int .i64 0, .string (⟨#[]⟩ : ByteArray)] 25 (0, 0)) (by (with_reducible repeat (first | refine blk_drewN ?_ _ | refine blk_drew ?_ | refine blk_alloc ?_ _)); exact BK266.out) hb); have n2_ := Aside0.mk (KeepBut.trans (by repeat (first | (with_reducible first | exact HK.out | apply KeepBut.set_ | apply keep_drewN | apply keep_drew | apply keep_alloc | refine keep_far ?_ GW266.out _) | exact HK.out)) (KeepBut.of_below hb g none) (.inl rfl)); have n3_ := Aside0.mk (below_step (by repeat (first | (with_reducible first | exact HB.out | apply below_alloc | apply pw_below_drewN | apply below_drew1 | refine below_set ?_ (IsS116.ge HI0.out) | refine below_set ?_ GE266.out) | exact HB.out)) hb); have n4_ := Aside0.mk (hbox); have n5_ := Aside0.mk ((by rw [hg]; exact (keep_size (w := w) (g := g) (row := none) (by repeat (first | (with_reducible first | exact HK.out | apply KeepBut.set_ | apply keep_drewN | apply keep_drew | apply keep_alloc | refine keep_far ?_ GW266.out _) | exact HK.out))) : w.heap.size ≤ gb267)); have n6_ := Aside0.mk ((Nat.le_trans HW0.out (by rw [hg]; exact (keep_size (w := w) (g := g) (row := none) (by repeat (first | (with_reducible first | exact HK.out | apply KeepBut.set_ | apply keep_drewN | apply keep_drew | apply keep_alloc | refine keep_far ?_ GW266.out _) | exact HK.out))) : w.heap.size ≤ gb267) : w0.heap.size ≤ gb267)); have n7_ := Aside0.mk ((by rw [hg]; exact Nat.ne_of_lt (blk_lt (g := gb266) (o := .cells #[.int .i64 0, .int .i64 0, .string (⟨#[]⟩ : ByteArray)] 25 (0, 0)) (by (with_reducible repeat (first | refine blk_drewN ?_ _ | refine blk_drew ?_ | refine blk_alloc ?_ _)); exact BK266.out)) : gb266 ≠ gb267)); have n8_ := Aside0.mk ((by rw [hg]; exact Nat.ne_of_gt (blk_lt (g := gb266) (o := .cells #[.int .i64 0, .int .i64 0, .string (⟨#[]⟩ : ByteArray)] 25 (0, 0)) (by (with_reducible repeat (first | refine blk_drewN ?_ _ | refine blk_drew ?_ | refine blk_alloc ?_ _)); exact BK266.out)) : gb267 ≠ gb266)); have n9_ := Aside0.mk ((by rw [hg]; exact Nat.ne_of_lt (IsS116.lt (show IsS116 w0 _ g s0_0 s0_1 s0_2 from by repeat (first | (with_reducible first | exact HI0.out | apply IsS116.alloc | apply IsS116.drewN | apply IsS116.drew | apply IsS116.set_1 | apply IsS116.set_2 | refine IsS116.far ?_ NB0_266.out _) | exact HI0.out))) : g ≠ gb267)); have n10_ := Aside0.mk ((by rw [hg]; exact Nat.ne_of_gt (IsS116.lt (show IsS116 w0 _ g s0_0 s0_1 s0_2 from by repeat (first | (with_reducible first | exact HI0.out | apply IsS116.alloc | apply IsS116.drewN | apply IsS116.drew | apply IsS116.set_1 | apply IsS116.set_2 | refine IsS116.far ?_ NB0_266.out _) | exact HI0.out))) : gb267 ≠ g)); clear HI0; clear BK266; clear HK; clear HB; have HI0 := n0_; have BK266 := n1_; have HK := n2_; have HB := n3_; have BK267 := n4_; have GW267 := n5_; have GE267 := n6_; have NB266_267 := n7_; have NB267_266 := n8_; have NB0_267 := n9_; have NB267_0 := n10_; clear n0_ n1_ n2_ n3_ n4_ n5_ n6_ n7_ n8_ n9_ n10_; clear hb hbox hg) | ((with_reducible refine gate_dst (N := 4) rfl ?_); refine box_event ?hg (N := 4) ?hd (cs := #[.bool false, .int .i64 0, .bool false, .bool false]) (t := 50) ?hr ?_; (case hd => rfl); (case hg => rfl); (case hr => first | (go_simp; done) | (go_simp; rfl)); intro gb268 hg w14 hbox hb; have n0_ := Aside0.mk (IsS116.below (by repeat (first | (with_reducible first | exact HI0.out | apply IsS116.alloc | apply IsS116.drewN | apply IsS116.drew | apply IsS116.set_1 | apply IsS116.set_2 | refine IsS116.far ?_ NB0_266.out _ | refine IsS116.far ?_ NB0_267.out _) | exact HI0.out)) hb); have n1_ := Aside0.mk (blk_below (g := gb266) (o := .cells #[.int .i64 0, .int .i64 0, .string (⟨#[]⟩ : ByteArray)] 25 (0, 0)) (by (with_reducible repeat (first | refine blk_drewN ?_ _ | refine blk_drew ?_ | refine blk_alloc ?_ _)); exact BK266.out) hb); have n2_ := Aside0.mk (blk_below (g := gb267) (o := .cells #[.int .i64 0, .int .i64 0, .int .i64 0, .int .i64 0] 38 (0, 0)) (by (with_reducible repeat (first | refine blk_drewN ?_ _ | refine blk_drew ?_ | refine blk_alloc ?_ _)); exact BK267.out) hb); have n3_ := Aside0.mk (KeepBut.trans (by repeat (first | (with_reducible first | exact HK.out | apply KeepBut.set_ | apply keep_drewN | apply keep_drew | apply keep_alloc | refine keep_far ?_ GW266.out _ | refine keep_far ?_ GW267.out _) | exact HK.out)) (KeepBut.of_below hb g none) (.inl rfl)); have n4_ := Aside0.mk (below_step (by repeat (first | (with_reducible first | exact HB.out | apply below_alloc | apply pw_below_drewN | apply below_drew1 | refine below_set ?_ (IsS116.ge HI0.out) | refine below_set ?_ GE266.out | refine below_set ?_ GE267.out) | exact HB.out)) hb); have n5_ := Aside0.mk (hbox); have n6_ := Aside0.mk ((by rw [hg]; exact (keep_size (w := w) (g := g) (row := none) (by repeat (first | (with_reducible first | exact HK.out | apply KeepBut.set_ | apply keep_drewN | apply keep_drew | apply keep_alloc | refine keep_far ?_ GW266.out _ | refine keep_far ?_ GW267.out _) | exact HK.out))) : w.heap.size ≤ gb268)); have n7_ := Aside0.mk ((Nat.le_trans HW0.out (by rw [hg]; exact (keep_size (w := w) (g := g) (row := none) (by repeat (first | (with_reducible first | exact HK.out | apply KeepBut.set_ | apply keep_drewN | apply keep_drew | apply keep_alloc | refine keep_far ?_ GW266.out _ | refine keep_far ?_ GW267.out _) | exact HK.out))) : w.heap.size ≤ gb268) : w0.heap.size ≤ gb268)); have n8_ := Aside0.mk ((by rw [hg]; exact Nat.ne_of_lt (blk_lt (g := gb266) (o := .cells #[.int .i64 0, .int .i64 0, .string (⟨#[]⟩ : ByteArray)] 25 (0, 0)) (by (with_reducible repeat (first | refine blk_drewN ?_ _ | refine blk_drew ?_ | refine blk_alloc ?_ _)); exact BK266.out)) : gb266 ≠ gb268)); have n9_ := Aside0.mk ((by rw [hg]; exact Nat.ne_of_gt (blk_lt (g := gb266) (o := .cells #[.int .i64 0, .int .i64 0, .string (⟨#[]⟩ : ByteArray)] 25 (0, 0)) (by (with_reducible repeat (first | refine blk_drewN ?_ _ | refine blk_drew ?_ | refine blk_alloc ?_ _)); exact BK266.out)) : gb268 ≠ gb266)); have n10_ := Aside0.mk ((by rw [hg]; exact Nat.ne_of_lt (blk_lt (g := gb267) (o := .cells #[.int .i64 0, .int .i64 0, .int .i64 0, .int .i64 0] 38 (0, 0)) (by (with_reducible repeat (first | refine blk_drewN ?_ _ | refine blk_drew ?_ | refine blk_alloc ?_ _)); exact BK267.out)) : gb267 ≠ gb268)); have n11_ := Aside0.mk ((by rw [hg]; exact Nat.ne_of_gt (blk_lt (g := gb267) (o := .cells #[.int .i64 0, .int .i64 0, .int .i64 0, .int .i64 0] 38 (0, 0)) (by (with_reducible repeat (first | refine blk_drewN ?_ _ | refine blk_drew ?_ | refine blk_alloc ?_ _)); exact BK267.out)) : gb268 ≠ gb267)); have n12_ := Aside0.mk ((by rw [hg]; exact Nat.ne_of_lt (IsS116.lt (show IsS116 w0 _ g s0_0 s0_1 s0_2 from by repeat (first | (with_reducible first | exact HI0.out | apply IsS116.alloc | apply IsS116.drewN | apply IsS116.drew | apply IsS116.set_1 | apply IsS116.set_2 | refine IsS116.far ?_ NB0_266.out _ | refine IsS116.far ?_ NB0_267.out _) | exact HI0.out))) : g ≠ gb268)); have n13_ := Aside0.mk ((by rw [hg]; exact Nat.ne_of_gt (IsS116.lt (show IsS116 w0 _ g s0_0 s0_1 s0_2 from by repeat (first | (with_reducible first | exact HI0.out | apply IsS116.alloc | apply IsS116.drewN | apply IsS116.drew | apply IsS116.set_1 | apply IsS116.set_2 | refine IsS116.far ?_ NB0_266.out _ | refine IsS116.far ?_ NB0_267.out _) | exact HI0.out))) : gb268 ≠ g)); clear HI0; clear BK266; clear BK267; clear HK; clear HB; have HI0 := n0_; have BK266 := n1_; have BK267 := n2_; have HK := n3_; have HB := n4_; have BK268 := n5_; have GW268 := n6_; have GE268 := n7_; have NB266_268 := n8_; have NB268_266 := n9_; have NB267_268 := n10_; have NB268_267 := n11_; have NB0_268 := n12_; have NB268_0 := n13_; clear n0_ n1_ n2_ n3_ n4_ n5_ n6_ n7_ n8_ n9_ n10_ n11_ n12_ n13_; clear hb hbox hg) | ((with_reducible refine gate_callee (f := 50) rfl ?_); refine goesL_ (some 11) rfl rfl Try.func50 (by kernel_rfl) rfl #[.pointer (some ⟨g, 0, none⟩), .int .i64 2] rfl (by (try simp only [List.map_toArray, List.map_cons, List.map_nil]); first | done | rfl | (simp only [List.length_drop, List.length_take]; rfl)) ?_; (with_reducible refine (spec_l01Below.calls g s0_0 s0_1 s0_2 2 t269 t270 t271 w0 _ ?side1 ?side2 A2.out).mono ?_); (case side1 => repeat (first | (with_reducible first | exact HI0.out | apply IsS116.alloc | apply IsS116.drewN | apply IsS116.drew | apply IsS116.set_1 | apply IsS116.set_2 | refine IsS116.far ?_ NB0_266.out _ | refine IsS116.far ?_ NB0_267.out _ | refine IsS116.far ?_ NB0_268.out _) | exact HI0.out)); (case side2 => repeat (first | (with_reducible first | exact HB.out | apply below_alloc | apply pw_below_drewN | apply below_drew1 | refine below_set ?_ (IsS116.ge HI0.out) | refine below_set ?_ GE266.out | refine below_set ?_ GE267.out | refine below_set ?_ GE268.out) | exact HB.out)); rintro e w15 ⟨rfl, hi, hb, hk⟩; refine ⟨_, rfl, ?_⟩; have n0_ := Aside0.mk (KeepBut.blk hk (g' := gb266) (o := .cells #[.int .i64 0, .int .i64 0, .string (⟨#[]⟩ : ByteArray)] 25 (0, 0)) (by (with_reducible repeat (first | refine blk_drewN ?_ _ | refine blk_drew ?_ | refine blk_alloc ?_ _)); exact BK266.out) NB266_0.out (by simp)); have n1_ := Aside0.mk (KeepBut.blk hk (g' := gb267) (o := .cells #[.int .i64 0, .int .i64 0, .int .i64 0, .int .i64 0] 38 (0, 0)) (by (with_reducible repeat (first | refine blk_drewN ?_ _ | refine blk_drew ?_ | refine blk_alloc ?_ _)); exact BK267.out) NB267_0.out (by simp)); have n2_ := Aside0.mk (KeepBut.blk hk (g' := gb268) (o := .cells #[.bool false, .int .i64 0, .bool false, .bool false] 50 (0, 0)) (by (with_reducible repeat (first | refine blk_drewN ?_ _ | refine blk_drew ?_ | refine blk_alloc ?_ _)); exact BK268.out) NB268_0.out (by simp)); have n3_ := Aside0.mk (KeepBut.trans (by repeat (first | (with_reducible first | exact HK.out | apply KeepBut.set_ | apply keep_drewN | apply keep_drew | apply keep_alloc | refine keep_far ?_ GW266.out _ | refine keep_far ?_ GW267.out _ | refine keep_far ?_ GW268.out _) | exact HK.out)) hk (.inl rfl)); have n4_ := Aside0.mk (hb); have n5_ := Aside0.mk (hi); clear BK266; clear BK267; clear BK268; clear HK; clear HB; clear HI0; have BK266 := n0_; have BK267 := n1_; have BK268 := n2_; have HK := n3_; have HB := n4_; have HI0 := n5_; clear n0_ n1_ n2_ n3_ n4_ n5_; (try clear hb); (try clear hb2); (try clear hk); (try clear hi)) | ((with_reducible refine gate_callee (f := 50) rfl ?_); refine goesL_ (some 14) rfl rfl Try.func50 (by kernel_rfl) rfl #[.pointer (some ⟨g, 0, none⟩), .int .i64 2] rfl (by (try simp only [List.map_toArray, List.map_cons, List.map_nil]); first | done | rfl | (simp only [List.length_drop, List.length_take]; rfl)) ?_; (with_reducible refine (spec_l01Below.calls g s0_0 t270 t271 2 t272 t273 t274 w0 _ ?side1 ?side2 A3.out).mono ?_); (case side1 => repeat (first | (with_reducible first | exact HI0.out | apply IsS116.alloc | apply IsS116.drewN | apply IsS116.drew | apply IsS116.set_1 | apply IsS116.set_2 | refine IsS116.far ?_ NB0_266.out _ | refine IsS116.far ?_ NB0_267.out _ | refine IsS116.far ?_ NB0_268.out _) | exact HI0.out)); (case side2 => repeat (first | (with_reducible first | exact HB.out | apply below_alloc | apply pw_below_drewN | apply below_drew1 | refine below_set ?_ (IsS116.ge HI0.out) | refine below_set ?_ GE266.out | refine below_set ?_ GE267.out | refine below_set ?_ GE268.out) | exact HB.out)); rintro e w16 ⟨rfl, hi, hb, hk⟩; refine ⟨_, rfl, ?_⟩; have n0_ := Aside0.mk (KeepBut.blk hk (g' := gb266) (o := .cells #[.int .i64 0, .int .i64 0, .string (⟨#[]⟩ : ByteArray)] 25 (0, 0)) (by (with_reducible repeat (first | refine blk_drewN ?_ _ | refine blk_drew ?_ | refine blk_alloc ?_ _)); exact BK266.out) NB266_0.out (by simp)); have n1_ := Aside0.mk (KeepBut.blk hk (g' := gb267) (o := .cells #[.int .i64 0, .int .i64 0, .int .i64 0, .int .i64 0] 38 (0, 0)) (by (with_reducible repeat (first | refine blk_drewN ?_ _ | refine blk_drew ?_ | refine blk_alloc ?_ _)); exact BK267.out) NB267_0.out (by simp)); have n2_ := Aside0.mk (KeepBut.blk hk (g' := gb268) (o := .cells #[.bool false, .int .i64 0, .bool false, .bool false] 50 (0, 0)) (by (with_reducible repeat (first | refine blk_drewN ?_ _ | refine blk_drew ?_ | refine blk_alloc ?_ _)); exact BK268.out) NB268_0.out (by simp)); have n3_ := Aside0.mk (KeepBut.trans (by repeat (first | (with_reducible first | exact HK.out | apply KeepBut.set_ | apply keep_drewN | apply keep_drew | apply keep_alloc | refine keep_far ?_ GW266.out _ | refine keep_far ?_ GW267.out _ | refine keep_far ?_ GW268.out _) | exact HK.out)) hk (.inl rfl)); have n4_ := Aside0.mk (hb); have n5_ := Aside0.mk (hi); clear BK266; clear BK267; clear BK268; clear HK; clear HB; clear HI0; have BK266 := n0_; have BK267 := n1_; have BK268 := n2_; have HK := n3_; have HB := n4_; have HI0 := n5_; clear n0_ n1_ n2_ n3_ n4_ n5_; (try clear hb); (try clear hb2); (try clear hk); (try clear hi)) | ((with_reducible refine gate_callee (f := 50) rfl ?_); refine goesL_ (some 17) rfl rfl Try.func50 (by kernel_rfl) rfl #[.pointer (some ⟨g, 0, none⟩), .int .i64 2] rfl (by (try simp only [List.map_toArray, List.map_cons, List.map_nil]); first | done | rfl | (simp only [List.length_drop, List.length_take]; rfl)) ?_; (with_reducible refine (spec_l01Below.calls g s0_0 t273 t274 2 t275 t276 t277 w0 _ ?side1 ?side2 A4.out).mono ?_); (case side1 => repeat (first | (with_reducible first | exact HI0.out | apply IsS116.alloc | apply IsS116.drewN | apply IsS116.drew | apply IsS116.set_1 | apply IsS116.set_2 | refine IsS116.far ?_ NB0_266.out _ | refine IsS116.far ?_ NB0_267.out _ | refine IsS116.far ?_ NB0_268.out _) | exact HI0.out)); (case side2 => repeat (first | (with_reducible first | exact HB.out | apply below_alloc | apply pw_below_drewN | apply below_drew1 | refine below_set ?_ (IsS116.ge HI0.out) | refine below_set ?_ GE266.out | refine below_set ?_ GE267.out | refine below_set ?_ GE268.out) | exact HB.out)); rintro e w17 ⟨rfl, hi, hb, hk⟩; refine ⟨_, rfl, ?_⟩; have n0_ := Aside0.mk (KeepBut.blk hk (g' := gb266) (o := .cells #[.int .i64 0, .int .i64 0, .string (⟨#[]⟩ : ByteArray)] 25 (0, 0)) (by (with_reducible repeat (first | refine blk_drewN ?_ _ | refine blk_drew ?_ | refine blk_alloc ?_ _)); exact BK266.out) NB266_0.out (by simp)); have n1_ := Aside0.mk (KeepBut.blk hk (g' := gb267) (o := .cells #[.int .i64 0, .int .i64 0, .int .i64 0, .int .i64 0] 38 (0, 0)) (by (with_reducible repeat (first | refine blk_drewN ?_ _ | refine blk_drew ?_ | refine blk_alloc ?_ _)); exact BK267.out) NB267_0.out (by simp)); have n2_ := Aside0.mk (KeepBut.blk hk (g' := gb268) (o := .cells #[.bool false, .int .i64 0, .bool false, .bool false] 50 (0, 0)) (by (with_reducible repeat (first | refine blk_drewN ?_ _ | refine blk_drew ?_ | refine blk_alloc ?_ _)); exact BK268.out) NB268_0.out (by simp)); have n3_ := Aside0.mk (KeepBut.trans (by repeat (first | (with_reducible first | exact HK.out | apply KeepBut.set_ | apply keep_drewN | apply keep_drew | apply keep_alloc | refine keep_far ?_ GW266.out _ | refine keep_far ?_ GW267.out _ | refine keep_far ?_ GW268.out _) | exact HK.out)) hk (.inl rfl)); have n4_ := Aside0.mk (hb); have n5_ := Aside0.mk (hi); clear BK266; clear BK267; clear BK268; clear HK; clear HB; clear HI0; have BK266 := n0_; have BK267 := n1_; have BK268 := n2_; have HK := n3_; have HB := n4_; have HI0 := n5_; clear n0_ n1_ n2_ n3_ n4_ n5_; (try clear hb); (try clear hb2); (try clear hk); (try clear hi)) | ((with_reducible refine gate_callee (f := 50) rfl ?_); refine goesL_ (some 21) rfl rfl Try.func50 (by kernel_rfl) rfl #[.pointer (some ⟨g, 0, none⟩), .int .i64 2] rfl (by (try simp only [List.map_toArray, List.map_cons, List.map_nil]); first | done | rfl | (simp only [List.length_drop, List.length_take]; rfl)) ?_; (with_reducible refine (spec_l01Below.calls g s0_0 t276 t277 2 t278 t279 t280 w0 _ ?side1 ?side2 A5.out).mono ?_); (case side1 => repeat (first | (with_reducible first | exact HI0.out | apply IsS116.alloc | apply IsS116.drewN | apply IsS116.drew | apply IsS116.set_1 | apply IsS116.set_2 | refine IsS116.far ?_ NB0_266.out _ | refine IsS116.far ?_ NB0_267.out _ | refine IsS116.far ?_ NB0_268.out _) | exact HI0.out)); (case side2 => repeat (first | (with_reducible first | exact HB.out | apply below_alloc | apply pw_below_drewN | apply below_drew1 | refine below_set ?_ (IsS116.ge HI0.out) | refine below_set ?_ GE266.out | refine below_set ?_ GE267.out | refine below_set ?_ GE268.out) | exact HB.out)); rintro e w18 ⟨rfl, hi, hb, hk⟩; refine ⟨_, rfl, ?_⟩; have n0_ := Aside0.mk (KeepBut.blk hk (g' := gb266) (o := .cells #[.int .i64 0, .int .i64 0, .string (⟨#[]⟩ : ByteArray)] 25 (0, 0)) (by (with_reducible repeat (first | refine blk_drewN ?_ _ | refine blk_drew ?_ | refine blk_alloc ?_ _)); exact BK266.out) NB266_0.out (by simp)); have n1_ := Aside0.mk (KeepBut.blk hk (g' := gb267) (o := .cells #[.int .i64 0, .int .i64 0, .int .i64 0, .int .i64 0] 38 (0, 0)) (by (with_reducible repeat (first | refine blk_drewN ?_ _ | refine blk_drew ?_ | refine blk_alloc ?_ _)); exact BK267.out) NB267_0.out (by simp)); have n2_ := Aside0.mk (KeepBut.blk hk (g' := gb268) (o := .cells #[.bool false, .int .i64 0, .bool false, .bool false] 50 (0, 0)) (by (with_reducible repeat (first | refine blk_drewN ?_ _ | refine blk_drew ?_ | refine blk_alloc ?_ _)); exact BK268.out) NB268_0.out (by simp)); have n3_ := Aside0.mk (KeepBut.trans (by repeat (first | (with_reducible first | exact HK.out | apply KeepBut.set_ | apply keep_drewN | apply keep_drew | apply keep_alloc | refine keep_far ?_ GW266.out _ | refine keep_far ?_ GW267.out _ | refine keep_far ?_ GW268.out _) | exact HK.out)) hk (.inl rfl)); have n4_ := Aside0.mk (hb); have n5_ := Aside0.mk (hi); clear BK266; clear BK267; clear BK268; clear HK; clear HB; clear HI0; have BK266 := n0_; have BK267 := n1_; have BK268 := n2_; have HK := n3_; have HB := n4_; have HI0 := n5_; clear n0_ n1_ n2_ n3_ n4_ n5_; (try clear hb); (try clear hb2); (try clear hk); (try clear hi)) | ((with_reducible refine gate_dst (N := 7) rfl ?_); refine box_event ?hg (N := 7) ?hd (cs := #[.int .i64 0, .int .i64 0, .int .i64 0, .int .i64 0]) (t := 38) ?hr ?_; (case hd => rfl); (case hg => rfl); (case hr => first | (go_simp; done) | (go_simp; rfl)); intro gb281 hg w19 hbox hb; have n0_ := Aside0.mk (IsS116.below (by repeat (first | (with_reducible first | exact HI0.out | apply IsS116.alloc | apply IsS116.drewN | apply IsS116.drew | apply IsS116.set_1 | apply IsS116.set_2 | refine IsS116.far ?_ NB0_266.out _ | refine IsS116.far ?_ NB0_267.out _ | refine IsS116.far ?_ NB0_268.out _) | exact HI0.out)) hb); have n1_ := Aside0.mk (blk_below (g := gb266) (o := .cells #[.int .i64 0, .int .i64 0, .string (⟨#[]⟩ : ByteArray)] 25 (0, 0)) (by (with_reducible repeat (first | refine blk_drewN ?_ _ | refine blk_drew ?_ | refine blk_alloc ?_ _)); exact BK266.out) hb); have n2_ := Aside0.mk (blk_below (g := gb267) (o := .cells #[.int .i64 0, .int .i64 0, .int .i64 0, .int .i64 0] 38 (0, 0)) (by (with_reducible repeat (first | refine blk_drewN ?_ _ | refine blk_drew ?_ | refine blk_alloc ?_ _)); exact BK267.out) hb); have n3_ := Aside0.mk (blk_below (g := gb268) (o := .cells #[.bool false, .int .i64 0, .bool false, .bool false] 50 (0, 0)) (by (with_reducible repeat (first | refine blk_drewN ?_ _ | refine blk_drew ?_ | refine blk_alloc ?_ _)); exact BK268.out) hb); have n4_ := Aside0.mk (KeepBut.trans (by repeat (first | (with_reducible first | exact HK.out | apply KeepBut.set_ | apply keep_drewN | apply keep_drew | apply keep_alloc | refine keep_far ?_ GW266.out _ | refine keep_far ?_ GW267.out _ | refine keep_far ?_ GW268.out _) | exact HK.out)) (KeepBut.of_below hb g none) (.inl rfl)); have n5_ := Aside0.mk (below_step (by repeat (first | (with_reducible first | exact HB.out | apply below_alloc | apply pw_below_drewN | apply below_drew1 | refine below_set ?_ (IsS116.ge HI0.out) | refine below_set ?_ GE266.out | refine below_set ?_ GE267.out | refine below_set ?_ GE268.out) | exact HB.out)) hb); have n6_ := Aside0.mk (hbox); have n7_ := Aside0.mk ((by rw [hg]; exact (keep_size (w := w) (g := g) (row := none) (by repeat (first | (with_reducible first | exact HK.out | apply KeepBut.set_ | apply keep_drewN | apply keep_drew | apply keep_alloc | refine keep_far ?_ GW266.out _ | refine keep_far ?_ GW267.out _ | refine keep_far ?_ GW268.out _) | exact HK.out))) : w.heap.size ≤ gb281)); have n8_ := Aside0.mk ((Nat.le_trans HW0.out (by rw [hg]; exact (keep_size (w := w) (g := g) (row := none) (by repeat (first | (with_reducible first | exact HK.out | apply KeepBut.set_ | apply keep_drewN | apply keep_drew | apply keep_alloc | refine keep_far ?_ GW266.out _ | refine keep_far ?_ GW267.out _ | refine keep_far ?_ GW268.out _) | exact HK.out))) : w.heap.size ≤ gb281) : w0.heap.size ≤ gb281)); have n9_ := Aside0.mk ((by rw [hg]; exact Nat.ne_of_lt (blk_lt (g := gb266) (o := .cells #[.int .i64 0, .int .i64 0, .string (⟨#[]⟩ : ByteArray)] 25 (0, 0)) (by (with_reducible repeat (first | refine blk_drewN ?_ _ | refine blk_drew ?_ | refine blk_alloc ?_ _)); exact BK266.out)) : gb266 ≠ gb281)); have n10_ := Aside0.mk ((by rw [hg]; exact Nat.ne_of_gt (blk_lt (g := gb266) (o := .cells #[.int .i64 0, .int .i64 0, .string (⟨#[]⟩ : ByteArray)] 25 (0, 0)) (by (with_reducible repeat (first | refine blk_drewN ?_ _ | refine blk_drew ?_ | refine blk_alloc ?_ _)); exact BK266.out)) : gb281 ≠ gb266)); have n11_ := Aside0.mk ((by rw [hg]; exact Nat.ne_of_lt (blk_lt (g := gb267) (o := .cells #[.int .i64 0, .int .i64 0, .int .i64 0, .int .i64 0] 38 (0, 0)) (by (with_reducible repeat (first | refine blk_drewN ?_ _ | refine blk_drew ?_ | refine blk_alloc ?_ _)); exact BK267.out)) : gb267 ≠ gb281)); have n12_ := Aside0.mk ((by rw [hg]; exact Nat.ne_of_gt (blk_lt (g := gb267) (o := .cells #[.int .i64 0, .int .i64 0, .int .i64 0, .int .i64 0] 38 (0, 0)) (by (with_reducible repeat (first | refine blk_drewN ?_ _ | refine blk_drew ?_ | refine blk_alloc ?_ _)); exact BK267.out)) : gb281 ≠ gb267)); have n13_ := Aside0.mk ((by rw [hg]; exact Nat.ne_of_lt (blk_lt (g := gb268) (o := .cells #[.bool false, .int .i64 0, .bool false, .bool false] 50 (0, 0)) (by (with_reducible repeat (first | refine blk_drewN ?_ _ | refine blk_drew ?_ | refine blk_alloc ?_ _)); exact BK268.out)) : gb268 ≠ gb281)); have n14_ := Aside0.mk ((by rw [hg]; exact Nat.ne_of_gt (blk_lt (g := gb268) (o := .cells #[.bool false, .int .i64 0, .bool false, .bool false] 50 (0, 0)) (by (with_reducible repeat (first | refine blk_drewN ?_ _ | refine blk_drew ?_ | refine blk_alloc ?_ _)); exact BK268.out)) : gb281 ≠ gb268)); have n15_ := Aside0.mk ((by rw [hg]; exact Nat.ne_of_lt (IsS116.lt (show IsS116 w0 _ g s0_0 t279 t280 from by repeat (first | (with_reducible first | exact HI0.out | apply IsS116.alloc | apply IsS116.drewN | apply IsS116.drew | apply IsS116.set_1 | apply IsS116.set_2 | refine IsS116.far ?_ NB0_266.out _ | refine IsS116.far ?_ NB0_267.out _ | refine IsS116.far ?_ NB0_268.out _) | exact HI0.out))) : g ≠ gb281)); have n16_ := Aside0.mk ((by rw [hg]; exact Nat.ne_of_gt (IsS116.lt (show IsS116 w0 _ g s0_0 t279 t280 from by repeat (first | (with_reducible first | exact HI0.out | apply IsS116.alloc | apply IsS116.drewN | apply IsS116.drew | apply IsS116.set_1 | apply IsS116.set_2 | refine IsS116.far ?_ NB0_266.out _ | refine IsS116.far ?_ NB0_267.out _ | refine IsS116.far ?_ NB0_268.out _) | exact HI0.out))) : gb281 ≠ g)); clear HI0; clear BK266; clear BK267; clear BK268; clear HK; clear HB; have HI0 := n0_; have BK266 := n1_; have BK267 := n2_; have BK268 := n3_; have HK := n4_; have HB := n5_; have BK281 := n6_; have GW281 := n7_; have GE281 := n8_; have NB266_281 := n9_; have NB281_266 := n10_; have NB267_281 := n11_; have NB281_267 := n12_; have NB268_281 := n13_; have NB281_268 := n14_; have NB0_281 := n15_; have NB281_0 := n16_; clear n0_ n1_ n2_ n3_ n4_ n5_ n6_ n7_ n8_ n9_ n10_ n11_ n12_ n13_ n14_ n15_ n16_; clear hb hbox hg; have hnb20 := NB281_266.out; have hnc20 := NB266_281.out; have hnb21 := NB281_267.out; have hnc21 := NB267_281.out; have hnb22 := NB281_268.out; have hnc22 := NB268_281.out; have hnb23 := NB281_0.out; have hnc23 := NB0_281.out; have hcz24_0 : w19.cell? ⟨gb281, 0, none⟩ = some (.int .i64 0) := (blk_cell BK281.out 0).trans rfl; have hcz24_1 : w19.cell? ⟨gb281, 1, none⟩ = some (.int .i64 0) := (blk_cell BK281.out 1).trans rfl; have hcz24_2 : w19.cell? ⟨gb281, 2, none⟩ = some (.int .i64 0) := (blk_cell BK281.out 2).trans rfl; have hcz24_3 : w19.cell? ⟨gb281, 3, none⟩ = some (.int .i64 0) := (blk_cell BK281.out 3).trans rfl; have hfz24_0 := blk_frozen BK281.out 0; have hfz24_1 := blk_frozen BK281.out 1; have hfz24_2 := blk_frozen BK281.out 2; have hfz24_3 := blk_frozen BK281.out 3))
 have n0_ : Aside0 (((((w19.setCell ⟨gb281, 0, none⟩ (.int .i64 (wrap64 (8 * t269)))).setCell ⟨gb281, 1, none⟩ (.int .i64 (wrap64 (8 * t272)))).setCell ⟨gb281, 2, none⟩ (.int .i64 (wrap64 (8 + (wrap64 (8 * t275)))))).setCell ⟨gb281, 3, none⟩ (.int .i64 (wrap64 (8 + (wrap64 (8 * t278)))))).heap[gb266]? = some (.cells #[.int .i64 0, .int .i64 0, .string (⟨#[]⟩ : ByteArray)] 25 (0, 0))) := ⟨by (with_reducible repeat (first | refine blk_drewN ?_ _ | refine blk_drew ?_ | refine blk_alloc ?_ _)); refine blk_far ?_ NB266_281.out _; (with_reducible repeat (first | refine blk_drewN ?_ _ | refine blk_drew ?_ | refine blk_alloc ?_ _)); refine blk_far ?_ NB266_281.out _; (with_reducible repeat (first | refine blk_drewN ?_ _ | refine blk_drew ?_ | refine blk_alloc ?_ _)); refine blk_far ?_ NB266_281.out _; (with_reducible repeat (first | refine blk_drewN ?_ _ | refine blk_drew ?_ | refine blk_alloc ?_ _)); refine blk_far ?_ NB266_281.out _; (with_reducible repeat (first | refine blk_drewN ?_ _ | refine blk_drew ?_ | refine blk_alloc ?_ _)); exact BK266.out⟩
 have n1_ : Aside0 (((((w19.setCell ⟨gb281, 0, none⟩ (.int .i64 (wrap64 (8 * t269)))).setCell ⟨gb281, 1, none⟩ (.int .i64 (wrap64 (8 * t272)))).setCell ⟨gb281, 2, none⟩ (.int .i64 (wrap64 (8 + (wrap64 (8 * t275)))))).setCell ⟨gb281, 3, none⟩ (.int .i64 (wrap64 (8 + (wrap64 (8 * t278)))))).heap[gb267]? = some (.cells #[.int .i64 0, .int .i64 0, .int .i64 0, .int .i64 0] 38 (0, 0))) := ⟨by (with_reducible repeat (first | refine blk_drewN ?_ _ | refine blk_drew ?_ | refine blk_alloc ?_ _)); refine blk_far ?_ NB267_281.out _; (with_reducible repeat (first | refine blk_drewN ?_ _ | refine blk_drew ?_ | refine blk_alloc ?_ _)); refine blk_far ?_ NB267_281.out _; (with_reducible repeat (first | refine blk_drewN ?_ _ | refine blk_drew ?_ | refine blk_alloc ?_ _)); refine blk_far ?_ NB267_281.out _; (with_reducible repeat (first | refine blk_drewN ?_ _ | refine blk_drew ?_ | refine blk_alloc ?_ _)); refine blk_far ?_ NB267_281.out _; (with_reducible repeat (first | refine blk_drewN ?_ _ | refine blk_drew ?_ | refine blk_alloc ?_ _)); exact BK267.out⟩
 have n2_ : Aside0 (((((w19.setCell ⟨gb281, 0, none⟩ (.int .i64 (wrap64 (8 * t269)))).setCell ⟨gb281, 1, none⟩ (.int .i64 (wrap64 (8 * t272)))).setCell ⟨gb281, 2, none⟩ (.int .i64 (wrap64 (8 + (wrap64 (8 * t275)))))).setCell ⟨gb281, 3, none⟩ (.int .i64 (wrap64 (8 + (wrap64 (8 * t278)))))).heap[gb268]? = some (.cells #[.bool false, .int .i64 0, .bool false, .bool false] 50 (0, 0))) := ⟨by (with_reducible repeat (first | refine blk_drewN ?_ _ | refine blk_drew ?_ | refine blk_alloc ?_ _)); refine blk_far ?_ NB268_281.out _; (with_reducible repeat (first | refine blk_drewN ?_ _ | refine blk_drew ?_ | refine blk_alloc ?_ _)); refine blk_far ?_ NB268_281.out _; (with_reducible repeat (first | refine blk_drewN ?_ _ | refine blk_drew ?_ | refine blk_alloc ?_ _)); refine blk_far ?_ NB268_281.out _; (with_reducible repeat (first | refine blk_drewN ?_ _ | refine blk_drew ?_ | refine blk_alloc ?_ _)); refine blk_far ?_ NB268_281.out _; (with_reducible repeat (first | refine blk_drewN ?_ _ | refine blk_drew ?_ | refine blk_alloc ?_ _)); exact BK268.out⟩
 have n3_ : Aside0 (((((w19.setCell ⟨gb281, 0, none⟩ (.int .i64 (wrap64 (8 * t269)))).setCell ⟨gb281, 1, none⟩ (.int .i64 (wrap64 (8 * t272)))).setCell ⟨gb281, 2, none⟩ (.int .i64 (wrap64 (8 + (wrap64 (8 * t275)))))).setCell ⟨gb281, 3, none⟩ (.int .i64 (wrap64 (8 + (wrap64 (8 * t278)))))).heap[gb281]? = some (.cells #[.int .i64 (wrap64 (8 * t269)), .int .i64 (wrap64 (8 * t272)), .int .i64 (wrap64 (8 + (wrap64 (8 * t275)))), .int .i64 (wrap64 (8 + (wrap64 (8 * t278))))] 38 (0, 0))) := ⟨by (with_reducible repeat (first | refine blk_drewN ?_ _ | refine blk_drew ?_ | refine blk_alloc ?_ _)); refine blk_put (cs := #[.int .i64 (wrap64 (8 * t269)), .int .i64 (wrap64 (8 * t272)), .int .i64 (wrap64 (8 + (wrap64 (8 * t275)))), .int .i64 0]) ?_ 3 _ rfl; (with_reducible repeat (first | refine blk_drewN ?_ _ | refine blk_drew ?_ | refine blk_alloc ?_ _)); refine blk_put (cs := #[.int .i64 (wrap64 (8 * t269)), .int .i64 (wrap64 (8 * t272)), .int .i64 0, .int .i64 0]) ?_ 2 _ rfl; (with_reducible repeat (first | refine blk_drewN ?_ _ | refine blk_drew ?_ | refine blk_alloc ?_ _)); refine blk_put (cs := #[.int .i64 (wrap64 (8 * t269)), .int .i64 0, .int .i64 0, .int .i64 0]) ?_ 1 _ rfl; (with_reducible repeat (first | refine blk_drewN ?_ _ | refine blk_drew ?_ | refine blk_alloc ?_ _)); refine blk_put (cs := #[.int .i64 0, .int .i64 0, .int .i64 0, .int .i64 0]) ?_ 0 _ rfl; (with_reducible repeat (first | refine blk_drewN ?_ _ | refine blk_drew ?_ | refine blk_alloc ?_ _)); exact BK281.out⟩
 have n4_ : Aside0 (IsS116 w0 ((((w19.setCell ⟨gb281, 0, none⟩ (.int .i64 (wrap64 (8 * t269)))).setCell ⟨gb281, 1, none⟩ (.int .i64 (wrap64 (8 * t272)))).setCell ⟨gb281, 2, none⟩ (.int .i64 (wrap64 (8 + (wrap64 (8 * t275)))))).setCell ⟨gb281, 3, none⟩ (.int .i64 (wrap64 (8 + (wrap64 (8 * t278)))))) g s0_0 t279 t280) := ⟨by repeat (first | (with_reducible first | exact HI0.out | apply IsS116.alloc | apply IsS116.drewN | apply IsS116.drew | apply IsS116.set_1 | apply IsS116.set_2 | refine IsS116.far ?_ NB0_266.out _ | refine IsS116.far ?_ NB0_267.out _ | refine IsS116.far ?_ NB0_268.out _ | refine IsS116.far ?_ NB0_281.out _) | exact HI0.out)⟩
 have n5_ : Aside0 (KeepBut w ((((w19.setCell ⟨gb281, 0, none⟩ (.int .i64 (wrap64 (8 * t269)))).setCell ⟨gb281, 1, none⟩ (.int .i64 (wrap64 (8 * t272)))).setCell ⟨gb281, 2, none⟩ (.int .i64 (wrap64 (8 + (wrap64 (8 * t275)))))).setCell ⟨gb281, 3, none⟩ (.int .i64 (wrap64 (8 + (wrap64 (8 * t278)))))) g none) := ⟨by repeat (first | (with_reducible first | exact HK.out | apply KeepBut.set_ | apply keep_drewN | apply keep_drew | apply keep_alloc | refine keep_far ?_ GW266.out _ | refine keep_far ?_ GW267.out _ | refine keep_far ?_ GW268.out _ | refine keep_far ?_ GW281.out _) | exact HK.out)⟩
 have n6_ : Aside0 (Below w0.heap.size w0 ((((w19.setCell ⟨gb281, 0, none⟩ (.int .i64 (wrap64 (8 * t269)))).setCell ⟨gb281, 1, none⟩ (.int .i64 (wrap64 (8 * t272)))).setCell ⟨gb281, 2, none⟩ (.int .i64 (wrap64 (8 + (wrap64 (8 * t275)))))).setCell ⟨gb281, 3, none⟩ (.int .i64 (wrap64 (8 + (wrap64 (8 * t278))))))) := ⟨by repeat (first | (with_reducible first | exact HB.out | apply below_alloc | apply pw_below_drewN | apply below_drew1 | refine below_set ?_ (IsS116.ge HI0.out) | refine below_set ?_ GE266.out | refine below_set ?_ GE267.out | refine below_set ?_ GE268.out | refine below_set ?_ GE281.out) | exact HB.out)⟩
 (try clear BK266)
 (try clear BK267)
 (try clear BK268)
 (try clear BK281)
 (try clear HI0)
 (try clear HK)
 (try clear HB)
 generalize ((((w19.setCell ⟨gb281, 0, none⟩ (.int .i64 (wrap64 (8 * t269)))).setCell ⟨gb281, 1, none⟩ (.int .i64 (wrap64 (8 * t272)))).setCell ⟨gb281, 2, none⟩ (.int .i64 (wrap64 (8 + (wrap64 (8 * t275)))))).setCell ⟨gb281, 3, none⟩ (.int .i64 (wrap64 (8 + (wrap64 (8 * t278)))))) = w25 at n0_ n1_ n2_ n3_ n4_ n5_ n6_ ⊢
 have BK266 := n0_
 have BK267 := n1_
 have BK268 := n2_
 have BK281 := n3_
 have HI0 := n4_
 have HK := n5_
 have HB := n6_
 clear n0_ n1_ n2_ n3_ n4_ n5_ n6_
 have n0_ := Aside0.mk (blk_drew BK266.out)
 have n1_ := Aside0.mk (blk_drew BK267.out)
 have n2_ := Aside0.mk (blk_drew BK268.out)
 have n3_ := Aside0.mk (blk_drew BK281.out)
 have n4_ := Aside0.mk (IsS116.drew HI0.out)
 have n5_ := Aside0.mk (keep_drew HK.out)
 have n6_ := Aside0.mk (below_drew1 HB.out)
 clear BK266
 clear BK267
 clear BK268
 clear BK281
 clear HI0
 clear HK
 clear HB
 have BK266 := n0_
 have BK267 := n1_
 have BK268 := n2_
 have BK281 := n3_
 have HI0 := n4_
 have HK := n5_
 have HB := n6_
 clear n0_ n1_ n2_ n3_ n4_ n5_ n6_
 refine start_ (n := 21) (S := fun w' => w'.cell? ⟨gb281, 0, none⟩ = some (.int .i64 (wrap64 (8 * t269))) ∧ w'.cell? ⟨gb281, 1, none⟩ = some (.int .i64 (wrap64 (8 * t272))) ∧ w'.cell? ⟨gb281, 2, none⟩ = some (.int .i64 (wrap64 (8 + (wrap64 (8 * t275))))) ∧ w'.cell? ⟨gb281, 3, none⟩ = some (.int .i64 (wrap64 (8 + (wrap64 (8 * t278)))))) (ds := []) #[false, false, false, false, false, false, false, false, false, false, false, false, false, false, false, false, false, false, false, false, false] (by kernel_rfl) rfl rfl ⟨(blk_cell BK281.out 0).trans rfl, (blk_cell BK281.out 1).trans rfl, (blk_cell BK281.out 2).trans rfl, (blk_cell BK281.out 3).trans rfl⟩ (fun hHeld => ?_); refine with_tabW spec_l16Drawn.tab2 spec_l16Drawn.bits2 (fun HT_ HW_ => ?_)
 generalize w25.drew = w26 at BK266 BK267 BK268 BK281 HI0 HK HB hHeld ⊢
 refine pure_ (i := 0) (N := some 25) (v := ?_) (a' := ?_) #[true, false, false, false, false, false, false, false, false, false, false, false, false, false, false, false, false, false, false, false, false] rfl rfl (any_of HT_.out (by kernel_rfl)) (fun _ _ _ h => h) (Or.inl ⟨by rfl, ?_⟩) ?_ ?_
 rotate_left
 ·intro w'
  go_simp
  with_reducible rfl
 rotate_left
 ·simp only [Act.put, List.setIfInBounds_toArray, List.set_cons_zero, List.set_cons_succ, i64_w, i32_w]
  rfl
 refine pure_ (i := 1) (N := some 26) (v := ?_) (a' := ?_) #[true, true, false, false, false, false, false, false, false, false, false, false, false, false, false, false, false, false, false, false, false] rfl rfl (any_of HT_.out (by kernel_rfl)) (fun _ _ _ h => h) (Or.inl ⟨by rfl, ?_⟩) ?_ ?_
 rotate_left
 ·intro w'
  go_simp
  with_reducible rfl
 rotate_left
 ·simp only [Act.put, List.setIfInBounds_toArray, List.set_cons_zero, List.set_cons_succ, i64_w, i32_w]
  rfl
 refine pure_ (i := 3) (N := some 28) (v := ?_) (a' := ?_) #[true, true, false, true, false, false, false, false, false, false, false, false, false, false, false, false, false, false, false, false, false] rfl rfl (any_of HT_.out (by kernel_rfl)) (fun _ _ _ h => h) (Or.inl ⟨by rfl, ?_⟩) ?_ ?_
 rotate_left
 ·intro w'
  go_simp
  with_reducible rfl
 rotate_left
 ·simp only [Act.put, List.setIfInBounds_toArray, List.set_cons_zero, List.set_cons_succ, i64_w, i32_w]
  rfl
 refine pure_ (i := 6) (N := some 31) (v := ?_) (a' := ?_) #[true, true, false, true, false, false, true, false, false, false, false, false, false, false, false, false, false, false, false, false, false] rfl rfl (any_of HT_.out (by kernel_rfl)) (fun _ _ _ h => h) (Or.inl ⟨by rfl, ?_⟩) ?_ ?_
 rotate_left
 ·intro w'
  go_simp
  with_reducible rfl
 rotate_left
 ·simp only [Act.put, List.setIfInBounds_toArray, List.set_cons_zero, List.set_cons_succ, i64_w, i32_w]
  rfl
 refine pure_ (i := 10) (N := some 35) (v := ?_) (a' := ?_) #[true, true, false, true, false, false, true, false, false, false, true, false, false, false, false, false, false, false, false, false, false] rfl rfl (any_of HT_.out (by kernel_rfl)) (fun _ _ _ h => h) (Or.inl ⟨by rfl, ?_⟩) ?_ ?_
 rotate_left
 ·intro w'
  go_simp
  with_reducible rfl
 rotate_left
 ·simp only [Act.put, List.setIfInBounds_toArray, List.set_cons_zero, List.set_cons_succ, i64_w, i32_w]
  rfl
 refine pure_ (i := 12) (N := some 37) (v := ?_) (a' := ?_) #[true, true, false, true, false, false, true, false, false, false, true, false, true, false, false, false, false, false, false, false, false] rfl rfl (any_of HT_.out (by kernel_rfl)) (fun _ _ _ h => h) (Or.inl ⟨by rfl, ?_⟩) ?_ ?_
 rotate_left
 ·intro w'
  go_simp
  with_reducible rfl
 rotate_left
 ·simp only [Act.put, List.setIfInBounds_toArray, List.set_cons_zero, List.set_cons_succ, i64_w, i32_w]
  rfl
 refine pure_ (i := 15) (N := some 40) (v := ?_) (a' := ?_) #[true, true, false, true, false, false, true, false, false, false, true, false, true, false, false, true, false, false, false, false, false] rfl rfl (any_of HT_.out (by kernel_rfl)) (fun _ _ _ h => h) (Or.inl ⟨by rfl, ?_⟩) ?_ ?_
 rotate_left
 ·intro w'
  go_simp
  with_reducible rfl
 rotate_left
 ·simp only [Act.put, List.setIfInBounds_toArray, List.set_cons_zero, List.set_cons_succ, i64_w, i32_w]
  rfl
 refine take_ (i := 2) (N := some 27) (v := ?_) (a' := ?_) #[true, true, true, true, false, false, true, false, false, false, true, false, true, false, false, true, false, false, false, false, false] rfl rfl (take_ofW HT_.out HW_.out (by kernel_rfl)) (fun _ _ _ h => h) (Or.inl ⟨by rfl, ?_⟩) hHeld ?_ ?_
 rotate_left
 ·rintro w' ⟨s0, s1, s2, s3⟩
  go_simp
  with_reducible rfl
 rotate_left
 ·simp only [Act.put, List.setIfInBounds_toArray, List.set_cons_zero, List.set_cons_succ, i64_w, i32_w]
  rfl
 refine take_ (i := 4) (N := some 29) (v := ?_) (a' := ?_) #[true, true, true, true, true, false, true, false, false, false, true, false, true, false, false, true, false, false, false, false, false] rfl rfl (take_ofW HT_.out HW_.out (by kernel_rfl)) (fun _ _ _ h => h) (Or.inl ⟨by rfl, ?_⟩) hHeld ?_ ?_
 rotate_left
 ·rintro w' ⟨s0, s1, s2, s3⟩
  go_simp
  with_reducible rfl
 rotate_left
 ·simp only [Act.put, List.setIfInBounds_toArray, List.set_cons_zero, List.set_cons_succ, i64_w, i32_w]
  rfl
 refine pure_ (i := 5) (N := some 30) (v := ?_) (a' := ?_) #[true, true, true, true, true, true, true, false, false, false, true, false, true, false, false, true, false, false, false, false, false] rfl rfl (any_of HT_.out (by kernel_rfl)) (fun _ _ _ h => h) (Or.inl ⟨by rfl, ?_⟩) ?_ ?_
 rotate_left
 ·intro w'
  go_simp
  with_reducible rfl
 rotate_left
 ·simp only [Act.put, List.setIfInBounds_toArray, List.set_cons_zero, List.set_cons_succ, i64_w, i32_w]
  rfl
 refine take_ (i := 11) (N := some 36) (v := ?_) (a' := ?_) #[true, true, true, true, true, true, true, false, false, false, true, true, true, false, false, true, false, false, false, false, false] rfl rfl (take_ofW HT_.out HW_.out (by kernel_rfl)) (fun _ _ _ h => h) (Or.inl ⟨by rfl, ?_⟩) hHeld ?_ ?_
 rotate_left
 ·rintro w' ⟨s0, s1, s2, s3⟩
  go_simp
  with_reducible rfl
 rotate_left
 ·simp only [Act.put, List.setIfInBounds_toArray, List.set_cons_zero, List.set_cons_succ, i64_w, i32_w]
  rfl
 refine take_ (i := 13) (N := some 38) (v := ?_) (a' := ?_) #[true, true, true, true, true, true, true, false, false, false, true, true, true, true, false, true, false, false, false, false, false] rfl rfl (take_ofW HT_.out HW_.out (by kernel_rfl)) (fun _ _ _ h => h) (Or.inl ⟨by rfl, ?_⟩) hHeld ?_ ?_
 rotate_left
 ·rintro w' ⟨s0, s1, s2, s3⟩
  go_simp
  with_reducible rfl
 rotate_left
 ·simp only [Act.put, List.setIfInBounds_toArray, List.set_cons_zero, List.set_cons_succ, i64_w, i32_w]
  rfl
 refine pure_ (i := 14) (N := some 39) (v := ?_) (a' := ?_) #[true, true, true, true, true, true, true, false, false, false, true, true, true, true, true, true, false, false, false, false, false] rfl rfl (any_of HT_.out (by kernel_rfl)) (fun _ _ _ h => h) (Or.inl ⟨by rfl, ?_⟩) ?_ ?_
 rotate_left
 ·intro w'
  go_simp
  with_reducible rfl
 rotate_left
 ·simp only [Act.put, List.setIfInBounds_toArray, List.set_cons_zero, List.set_cons_succ, i64_w, i32_w]
  rfl
 refine join_ (σ := Nat) 1 #[true, true, true, true, true, true, true, true, true, true, true, true, true, true, true, true, true, true, true, true, false] (fun s_ => [(32, .int .i64 t282), (41, .int .i64 t285), (43, .agg #[.int .i64 t288, .int .i64 t289, .string t290]), (8, .pointer (some ⟨s_, 0, none⟩)), (33, .int .i64 (wrap64 (8 * t282))), (34, .int .i64 (wrap64 ((wrap64 ((wrap64 (8 * t269)) + (wrap64 (8 + (wrap64 (8 * t275)))))) + (wrap64 (8 * t282))))), (42, .int .i64 (wrap64 ((wrap64 ((wrap64 (8 * t272)) + (wrap64 (8 + (wrap64 (8 * t278)))))) + t285)))]) (fun s_ w' => (w'.cell? ⟨gb281, 0, none⟩ = some (.int .i64 (wrap64 (8 * t269))) ∧ w'.cell? ⟨gb281, 1, none⟩ = some (.int .i64 (wrap64 (8 * t272))) ∧ w'.cell? ⟨gb281, 2, none⟩ = some (.int .i64 (wrap64 (8 + (wrap64 (8 * t275))))) ∧ w'.cell? ⟨gb281, 3, none⟩ = some (.int .i64 (wrap64 (8 + (wrap64 (8 * t278)))))) ∧ (w'.heap[gb266]? = some (.cells #[.int .i64 0, .int .i64 0, .string (⟨#[]⟩ : ByteArray)] 25 (0, 0))) ∧ (w'.heap[gb267]? = some (.cells #[.int .i64 0, .int .i64 0, .int .i64 0, .int .i64 0] 38 (0, 0))) ∧ (w'.heap[gb268]? = some (.cells #[.bool false, .int .i64 0, .bool false, .bool false] 50 (0, 0))) ∧ (w'.heap[gb281]? = some (.cells #[.int .i64 (wrap64 (8 * t269)), .int .i64 (wrap64 (8 * t272)), .int .i64 (wrap64 (8 + (wrap64 (8 * t275)))), .int .i64 (wrap64 (8 + (wrap64 (8 * t278))))] 38 (0, 0))) ∧ (w'.heap[s_]? = some (.cells #[.int .i64 0, .int .i64 0, .string (⟨#[]⟩ : ByteArray)] 25 (0, 0))) ∧ (w.heap.size ≤ s_) ∧ (w0.heap.size ≤ s_) ∧ (g ≠ s_) ∧ (s_ ≠ g) ∧ (gb266 ≠ s_) ∧ (s_ ≠ gb266) ∧ (gb267 ≠ s_) ∧ (s_ ≠ gb267) ∧ (gb268 ≠ s_) ∧ (s_ ≠ gb268) ∧ (gb281 ≠ s_) ∧ (s_ ≠ gb281) ∧ (IsS116 w0 w' g s0_0 t291 t292) ∧ (KeepBut w w' g none) ∧ (Below w0.heap.size w0 w')) ?_ ?_
 rotate_left
 ·intro hCont
  refine two_ (i := 7) (j := 19) (Ni := some 32) (Nj := some 8) #[true, true, true, true, true, true, true, true, false, false, true, true, true, true, true, true, false, false, false, false, false] #[true, true, true, true, true, true, true, false, false, false, true, true, true, true, true, true, false, false, false, true, false] rfl rfl rfl rfl (two_of HT_.out (by kernel_rfl)) (by decide) (by decide) (fun K hK => ?_) (fun K hK => ?_)
  ·skip
   refine goes_ Try.func50 (by kernel_rfl) rfl #[.pointer (some ⟨g, 0, none⟩), .int .i64 2] (by rfl) rfl rfl (by (try simp only [List.map_toArray, List.map_cons, List.map_nil]); first | done | rfl | (simp only [List.length_drop, List.length_take]; rfl)) ?_
   with_reducible refine (spec_l01Below.calls g s0_0 t279 t280 2 t282 t283 t284 w0 _ ?side1 ?side2 A6.out).mono ?_
   (case side1 => repeat (first | (with_reducible first | exact HI0.out | apply IsS116.alloc | apply IsS116.drewN | apply IsS116.drew | apply IsS116.set_1 | apply IsS116.set_2 | refine IsS116.far ?_ NB0_266.out _ | refine IsS116.far ?_ NB0_267.out _ | refine IsS116.far ?_ NB0_268.out _ | refine IsS116.far ?_ NB0_281.out _) | exact HI0.out))
   (case side2 => repeat (first | (with_reducible first | exact HB.out | apply below_alloc | apply pw_below_drewN | apply below_drew1 | refine below_set ?_ (IsS116.ge HI0.out) | refine below_set ?_ GE266.out | refine below_set ?_ GE267.out | refine below_set ?_ GE268.out | refine below_set ?_ GE281.out) | exact HB.out))
   rintro e w27 ⟨rfl, hi, hb, hk⟩
   refine ⟨_, rfl, ?_⟩
   have n0_ := Aside0.mk (KeepBut.blk hk (g' := gb266) (o := .cells #[.int .i64 0, .int .i64 0, .string (⟨#[]⟩ : ByteArray)] 25 (0, 0)) (by (with_reducible repeat (first | refine blk_drewN ?_ _ | refine blk_drew ?_ | refine blk_alloc ?_ _)); exact BK266.out) NB266_0.out (by simp))
   have n1_ := Aside0.mk (KeepBut.blk hk (g' := gb267) (o := .cells #[.int .i64 0, .int .i64 0, .int .i64 0, .int .i64 0] 38 (0, 0)) (by (with_reducible repeat (first | refine blk_drewN ?_ _ | refine blk_drew ?_ | refine blk_alloc ?_ _)); exact BK267.out) NB267_0.out (by simp))
   have n2_ := Aside0.mk (KeepBut.blk hk (g' := gb268) (o := .cells #[.bool false, .int .i64 0, .bool false, .bool false] 50 (0, 0)) (by (with_reducible repeat (first | refine blk_drewN ?_ _ | refine blk_drew ?_ | refine blk_alloc ?_ _)); exact BK268.out) NB268_0.out (by simp))
   have n3_ := Aside0.mk (KeepBut.blk hk (g' := gb281) (o := .cells #[.int .i64 (wrap64 (8 * t269)), .int .i64 (wrap64 (8 * t272)), .int .i64 (wrap64 (8 + (wrap64 (8 * t275)))), .int .i64 (wrap64 (8 + (wrap64 (8 * t278))))] 38 (0, 0)) (by (with_reducible repeat (first | refine blk_drewN ?_ _ | refine blk_drew ?_ | refine blk_alloc ?_ _)); exact BK281.out) NB281_0.out (by simp))
   have n4_ := Aside0.mk (KeepBut.trans (by repeat (first | (with_reducible first | exact HK.out | apply KeepBut.set_ | apply keep_drewN | apply keep_drew | apply keep_alloc | refine keep_far ?_ GW266.out _ | refine keep_far ?_ GW267.out _ | refine keep_far ?_ GW268.out _ | refine keep_far ?_ GW281.out _) | exact HK.out)) hk (.inl rfl))
   have n5_ := Aside0.mk (hb)
   have n6_ := Aside0.mk (hi)
   clear BK266
   clear BK267
   clear BK268
   clear BK281
   clear HK
   clear HB
   clear HI0
   have BK266 := n0_
   have BK267 := n1_
   have BK268 := n2_
   have BK281 := n3_
   have HK := n4_
   have HB := n5_
   have HI0 := n6_
   clear n0_ n1_ n2_ n3_ n4_ n5_ n6_
   (try clear hb)
   (try clear hb2)
   (try clear hk)
   (try clear hi)
   refine hK.out _ _ ⟨(blk_cell BK281.out 0).trans rfl, (blk_cell BK281.out 1).trans rfl, (blk_cell BK281.out 2).trans rfl, (blk_cell BK281.out 3).trans rfl⟩ (fun hHeld => ?_)
   clear hK K
   refine norm_ (a' := ?_) ?_ ?_
   rotate_left
   ·show Act.put _ (some 32) _ = _
    simp only [Act.put, List.setIfInBounds_toArray, List.set_cons_zero, List.set_cons_succ, i64_w, i32_w]
    rfl
   refine pure_ (i := 8) (N := some 33) (v := ?_) (a' := ?_) #[true, true, true, true, true, true, true, true, true, false, true, true, true, true, true, true, false, false, false, false, false] rfl rfl (any_of HT_.out (by kernel_rfl)) (fun _ _ _ h => h) (Or.inl ⟨by rfl, ?_⟩) ?_ ?_
   rotate_left
   ·intro w'
    go_simp
    with_reducible rfl
   rotate_left
   ·simp only [Act.put, List.setIfInBounds_toArray, List.set_cons_zero, List.set_cons_succ, i64_w, i32_w]
    rfl
   refine pure_ (i := 9) (N := some 34) (v := ?_) (a' := ?_) #[true, true, true, true, true, true, true, true, true, true, true, true, true, true, true, true, false, false, false, false, false] rfl rfl (any_of HT_.out (by kernel_rfl)) (fun _ _ _ h => h) (Or.inl ⟨by rfl, ?_⟩) ?_ ?_
   rotate_left
   ·intro w'
    go_simp
    with_reducible rfl
   rotate_left
   ·simp only [Act.put, List.setIfInBounds_toArray, List.set_cons_zero, List.set_cons_succ, i64_w, i32_w]
    rfl
   refine two_ (i := 16) (j := 19) (Ni := some 41) (Nj := some 8) #[true, true, true, true, true, true, true, true, true, true, true, true, true, true, true, true, true, false, false, false, false] #[true, true, true, true, true, true, true, true, true, true, true, true, true, true, true, true, false, false, false, true, false] rfl rfl rfl rfl (two_of HT_.out (by kernel_rfl)) (by decide) (by decide) (fun K hK => ?_) (fun K hK => ?_)
   ·skip
    refine goes_ Try.func50 (by kernel_rfl) rfl #[.pointer (some ⟨g, 0, none⟩), .int .i64 5] (by rfl) rfl rfl (by (try simp only [List.map_toArray, List.map_cons, List.map_nil]); first | done | rfl | (simp only [List.length_drop, List.length_take]; rfl)) ?_
    with_reducible refine (spec_l01Below.calls g s0_0 t283 t284 5 t285 t286 t287 w0 _ ?side1 ?side2 A7.out).mono ?_
    (case side1 => repeat (first | (with_reducible first | exact HI0.out | apply IsS116.alloc | apply IsS116.drewN | apply IsS116.drew | apply IsS116.set_1 | apply IsS116.set_2 | refine IsS116.far ?_ NB0_266.out _ | refine IsS116.far ?_ NB0_267.out _ | refine IsS116.far ?_ NB0_268.out _ | refine IsS116.far ?_ NB0_281.out _) | exact HI0.out))
    (case side2 => repeat (first | (with_reducible first | exact HB.out | apply below_alloc | apply pw_below_drewN | apply below_drew1 | refine below_set ?_ (IsS116.ge HI0.out) | refine below_set ?_ GE266.out | refine below_set ?_ GE267.out | refine below_set ?_ GE268.out | refine below_set ?_ GE281.out) | exact HB.out))
    rintro e w28 ⟨rfl, hi, hb, hk⟩
    refine ⟨_, rfl, ?_⟩
    have n0_ := Aside0.mk (KeepBut.blk hk (g' := gb266) (o := .cells #[.int .i64 0, .int .i64 0, .string (⟨#[]⟩ : ByteArray)] 25 (0, 0)) (by (with_reducible repeat (first | refine blk_drewN ?_ _ | refine blk_drew ?_ | refine blk_alloc ?_ _)); exact BK266.out) NB266_0.out (by simp))
    have n1_ := Aside0.mk (KeepBut.blk hk (g' := gb267) (o := .cells #[.int .i64 0, .int .i64 0, .int .i64 0, .int .i64 0] 38 (0, 0)) (by (with_reducible repeat (first | refine blk_drewN ?_ _ | refine blk_drew ?_ | refine blk_alloc ?_ _)); exact BK267.out) NB267_0.out (by simp))
    have n2_ := Aside0.mk (KeepBut.blk hk (g' := gb268) (o := .cells #[.bool false, .int .i64 0, .bool false, .bool false] 50 (0, 0)) (by (with_reducible repeat (first | refine blk_drewN ?_ _ | refine blk_drew ?_ | refine blk_alloc ?_ _)); exact BK268.out) NB268_0.out (by simp))
    have n3_ := Aside0.mk (KeepBut.blk hk (g' := gb281) (o := .cells #[.int .i64 (wrap64 (8 * t269)), .int .i64 (wrap64 (8 * t272)), .int .i64 (wrap64 (8 + (wrap64 (8 * t275)))), .int .i64 (wrap64 (8 + (wrap64 (8 * t278))))] 38 (0, 0)) (by (with_reducible repeat (first | refine blk_drewN ?_ _ | refine blk_drew ?_ | refine blk_alloc ?_ _)); exact BK281.out) NB281_0.out (by simp))
    have n4_ := Aside0.mk (KeepBut.trans (by repeat (first | (with_reducible first | exact HK.out | apply KeepBut.set_ | apply keep_drewN | apply keep_drew | apply keep_alloc | refine keep_far ?_ GW266.out _ | refine keep_far ?_ GW267.out _ | refine keep_far ?_ GW268.out _ | refine keep_far ?_ GW281.out _) | exact HK.out)) hk (.inl rfl))
    have n5_ := Aside0.mk (hb)
    have n6_ := Aside0.mk (hi)
    clear BK266
    clear BK267
    clear BK268
    clear BK281
    clear HK
    clear HB
    clear HI0
    have BK266 := n0_
    have BK267 := n1_
    have BK268 := n2_
    have BK281 := n3_
    have HK := n4_
    have HB := n5_
    have HI0 := n6_
    clear n0_ n1_ n2_ n3_ n4_ n5_ n6_
    (try clear hb)
    (try clear hb2)
    (try clear hk)
    (try clear hi)
    refine hK.out _ _ ⟨(blk_cell BK281.out 0).trans rfl, (blk_cell BK281.out 1).trans rfl, (blk_cell BK281.out 2).trans rfl, (blk_cell BK281.out 3).trans rfl⟩ (fun hHeld => ?_)
    clear hK K
    refine norm_ (a' := ?_) ?_ ?_
    rotate_left
    ·show Act.put _ (some 41) _ = _
     simp only [Act.put, List.setIfInBounds_toArray, List.set_cons_zero, List.set_cons_succ, i64_w, i32_w]
     rfl
    refine pure_ (i := 17) (N := some 42) (v := ?_) (a' := ?_) #[true, true, true, true, true, true, true, true, true, true, true, true, true, true, true, true, true, true, false, false, false] rfl rfl (any_of HT_.out (by kernel_rfl)) (fun _ _ _ h => h) (Or.inl ⟨by rfl, ?_⟩) ?_ ?_
    rotate_left
    ·intro w'
     go_simp
     with_reducible rfl
    rotate_left
    ·simp only [Act.put, List.setIfInBounds_toArray, List.set_cons_zero, List.set_cons_succ, i64_w, i32_w]
     rfl
    refine two_ (i := 18) (j := 19) (Ni := some 43) (Nj := some 8) #[true, true, true, true, true, true, true, true, true, true, true, true, true, true, true, true, true, true, true, false, false] #[true, true, true, true, true, true, true, true, true, true, true, true, true, true, true, true, true, true, false, true, false] rfl rfl rfl rfl (two_of HT_.out (by kernel_rfl)) (by decide) (by decide) (fun K hK => ?_) (fun K hK => ?_)
    ·skip
     refine goes_ Try.func85 (by kernel_rfl) rfl #[.pointer (some ⟨g, 0, none⟩), .int .i64 (wrap64 ((wrap64 ((wrap64 (8 * t269)) + (wrap64 (8 + (wrap64 (8 * t275)))))) + (wrap64 (8 * t282)))), .int .i64 (wrap64 ((wrap64 ((wrap64 (8 * t272)) + (wrap64 (8 + (wrap64 (8 * t278)))))) + t285))] (by rfl) rfl rfl (by (try simp only [List.map_toArray, List.map_cons, List.map_nil]); first | done | rfl | (simp only [List.length_drop, List.length_take]; rfl)) ?_
     with_reducible refine (spec_l12Sized.calls k g s0_0 t286 t287 (wrap64 ((wrap64 ((wrap64 (8 * t269)) + (wrap64 (8 + (wrap64 (8 * t275)))))) + (wrap64 (8 * t282)))) (wrap64 ((wrap64 ((wrap64 (8 * t272)) + (wrap64 (8 + (wrap64 (8 * t278)))))) + t285)) t288 t289 t290 t291 t292 w0 _ ?side1 ?side2 A8.out).mono ?_
     (case side1 => repeat (first | (with_reducible first | exact HI0.out | apply IsS116.alloc | apply IsS116.drewN | apply IsS116.drew | apply IsS116.set_1 | apply IsS116.set_2 | refine IsS116.far ?_ NB0_266.out _ | refine IsS116.far ?_ NB0_267.out _ | refine IsS116.far ?_ NB0_268.out _ | refine IsS116.far ?_ NB0_281.out _) | exact HI0.out))
     (case side2 => repeat (first | (with_reducible first | exact HB.out | apply below_alloc | apply pw_below_drewN | apply below_drew1 | refine below_set ?_ (IsS116.ge HI0.out) | refine below_set ?_ GE266.out | refine below_set ?_ GE267.out | refine below_set ?_ GE268.out | refine below_set ?_ GE281.out) | exact HB.out))
     rintro e w29 ⟨rfl, hi, hb, hk⟩
     refine ⟨_, rfl, ?_⟩
     have n0_ := Aside0.mk (KeepBut.blk hk (g' := gb266) (o := .cells #[.int .i64 0, .int .i64 0, .string (⟨#[]⟩ : ByteArray)] 25 (0, 0)) (by (with_reducible repeat (first | refine blk_drewN ?_ _ | refine blk_drew ?_ | refine blk_alloc ?_ _)); exact BK266.out) NB266_0.out (by simp))
     have n1_ := Aside0.mk (KeepBut.blk hk (g' := gb267) (o := .cells #[.int .i64 0, .int .i64 0, .int .i64 0, .int .i64 0] 38 (0, 0)) (by (with_reducible repeat (first | refine blk_drewN ?_ _ | refine blk_drew ?_ | refine blk_alloc ?_ _)); exact BK267.out) NB267_0.out (by simp))
     have n2_ := Aside0.mk (KeepBut.blk hk (g' := gb268) (o := .cells #[.bool false, .int .i64 0, .bool false, .bool false] 50 (0, 0)) (by (with_reducible repeat (first | refine blk_drewN ?_ _ | refine blk_drew ?_ | refine blk_alloc ?_ _)); exact BK268.out) NB268_0.out (by simp))
     have n3_ := Aside0.mk (KeepBut.blk hk (g' := gb281) (o := .cells #[.int .i64 (wrap64 (8 * t269)), .int .i64 (wrap64 (8 * t272)), .int .i64 (wrap64 (8 + (wrap64 (8 * t275)))), .int .i64 (wrap64 (8 + (wrap64 (8 * t278))))] 38 (0, 0)) (by (with_reducible repeat (first | refine blk_drewN ?_ _ | refine blk_drew ?_ | refine blk_alloc ?_ _)); exact BK281.out) NB281_0.out (by simp))
     have n4_ := Aside0.mk (KeepBut.trans (by repeat (first | (with_reducible first | exact HK.out | apply KeepBut.set_ | apply keep_drewN | apply keep_drew | apply keep_alloc | refine keep_far ?_ GW266.out _ | refine keep_far ?_ GW267.out _ | refine keep_far ?_ GW268.out _ | refine keep_far ?_ GW281.out _) | exact HK.out)) hk (.inl rfl))
     have n5_ := Aside0.mk (hb)
     have n6_ := Aside0.mk (hi)
     clear BK266
     clear BK267
     clear BK268
     clear BK281
     clear HK
     clear HB
     clear HI0
     have BK266 := n0_
     have BK267 := n1_
     have BK268 := n2_
     have BK281 := n3_
     have HK := n4_
     have HB := n5_
     have HI0 := n6_
     clear n0_ n1_ n2_ n3_ n4_ n5_ n6_
     (try clear hb)
     (try clear hb2)
     (try clear hk)
     (try clear hi)
     refine hK.out _ _ ⟨(blk_cell BK281.out 0).trans rfl, (blk_cell BK281.out 1).trans rfl, (blk_cell BK281.out 2).trans rfl, (blk_cell BK281.out 3).trans rfl⟩ (fun hHeld => ?_)
     clear hK K
     refine norm_ (a' := ?_) ?_ ?_
     rotate_left
     ·show Act.put _ (some 43) _ = _
      simp only [Act.put, List.setIfInBounds_toArray, List.set_cons_zero, List.set_cons_succ, i64_w, i32_w]
      rfl
     refine one_ (i := 19) (N := some 8) #[true, true, true, true, true, true, true, true, true, true, true, true, true, true, true, true, true, true, true, true, false] rfl rfl (one_of HT_.out (by kernel_rfl)) (by decide) (fun K hK => ?_)
     refine box_step ?hg (N := 8) ?hd (cs := #[.int .i64 0, .int .i64 0, .string (⟨#[]⟩ : ByteArray)]) (t := 25) ?hr ?_; (case hd => rfl); (case hg => rfl); (case hr => first | (go_simp; done) | (go_simp; rfl))
     intro gb293 hg w30 hbox hb
     have n0_ := Aside0.mk (IsS116.below (by repeat (first | (with_reducible first | exact HI0.out | apply IsS116.alloc | apply IsS116.drewN | apply IsS116.drew | apply IsS116.set_1 | apply IsS116.set_2 | refine IsS116.far ?_ NB0_266.out _ | refine IsS116.far ?_ NB0_267.out _ | refine IsS116.far ?_ NB0_268.out _ | refine IsS116.far ?_ NB0_281.out _) | exact HI0.out)) hb)
     have n1_ := Aside0.mk (blk_below (g := gb266) (o := .cells #[.int .i64 0, .int .i64 0, .string (⟨#[]⟩ : ByteArray)] 25 (0, 0)) (by (with_reducible repeat (first | refine blk_drewN ?_ _ | refine blk_drew ?_ | refine blk_alloc ?_ _)); exact BK266.out) hb)
     have n2_ := Aside0.mk (blk_below (g := gb267) (o := .cells #[.int .i64 0, .int .i64 0, .int .i64 0, .int .i64 0] 38 (0, 0)) (by (with_reducible repeat (first | refine blk_drewN ?_ _ | refine blk_drew ?_ | refine blk_alloc ?_ _)); exact BK267.out) hb)
     have n3_ := Aside0.mk (blk_below (g := gb268) (o := .cells #[.bool false, .int .i64 0, .bool false, .bool false] 50 (0, 0)) (by (with_reducible repeat (first | refine blk_drewN ?_ _ | refine blk_drew ?_ | refine blk_alloc ?_ _)); exact BK268.out) hb)
     have n4_ := Aside0.mk (blk_below (g := gb281) (o := .cells #[.int .i64 (wrap64 (8 * t269)), .int .i64 (wrap64 (8 * t272)), .int .i64 (wrap64 (8 + (wrap64 (8 * t275)))), .int .i64 (wrap64 (8 + (wrap64 (8 * t278))))] 38 (0, 0)) (by (with_reducible repeat (first | refine blk_drewN ?_ _ | refine blk_drew ?_ | refine blk_alloc ?_ _)); exact BK281.out) hb)
     have n5_ := Aside0.mk (KeepBut.trans (by repeat (first | (with_reducible first | exact HK.out | apply KeepBut.set_ | apply keep_drewN | apply keep_drew | apply keep_alloc | refine keep_far ?_ GW266.out _ | refine keep_far ?_ GW267.out _ | refine keep_far ?_ GW268.out _ | refine keep_far ?_ GW281.out _) | exact HK.out)) (KeepBut.of_below hb g none) (.inl rfl))
     have n6_ := Aside0.mk (below_step (by repeat (first | (with_reducible first | exact HB.out | apply below_alloc | apply pw_below_drewN | apply below_drew1 | refine below_set ?_ (IsS116.ge HI0.out) | refine below_set ?_ GE266.out | refine below_set ?_ GE267.out | refine below_set ?_ GE268.out | refine below_set ?_ GE281.out) | exact HB.out)) hb)
     have n7_ := Aside0.mk (hbox)
     have n8_ := Aside0.mk ((by rw [hg]; exact (keep_size (w := w) (g := g) (row := none) (by repeat (first | (with_reducible first | exact HK.out | apply KeepBut.set_ | apply keep_drewN | apply keep_drew | apply keep_alloc | refine keep_far ?_ GW266.out _ | refine keep_far ?_ GW267.out _ | refine keep_far ?_ GW268.out _ | refine keep_far ?_ GW281.out _) | exact HK.out))) : w.heap.size ≤ gb293))
     have n9_ := Aside0.mk ((Nat.le_trans HW0.out (by rw [hg]; exact (keep_size (w := w) (g := g) (row := none) (by repeat (first | (with_reducible first | exact HK.out | apply KeepBut.set_ | apply keep_drewN | apply keep_drew | apply keep_alloc | refine keep_far ?_ GW266.out _ | refine keep_far ?_ GW267.out _ | refine keep_far ?_ GW268.out _ | refine keep_far ?_ GW281.out _) | exact HK.out))) : w.heap.size ≤ gb293) : w0.heap.size ≤ gb293))
     have n10_ := Aside0.mk ((by rw [hg]; exact Nat.ne_of_lt (blk_lt (g := gb266) (o := .cells #[.int .i64 0, .int .i64 0, .string (⟨#[]⟩ : ByteArray)] 25 (0, 0)) (by (with_reducible repeat (first | refine blk_drewN ?_ _ | refine blk_drew ?_ | refine blk_alloc ?_ _)); exact BK266.out)) : gb266 ≠ gb293))
     have n11_ := Aside0.mk ((by rw [hg]; exact Nat.ne_of_gt (blk_lt (g := gb266) (o := .cells #[.int .i64 0, .int .i64 0, .string (⟨#[]⟩ : ByteArray)] 25 (0, 0)) (by (with_reducible repeat (first | refine blk_drewN ?_ _ | refine blk_drew ?_ | refine blk_alloc ?_ _)); exact BK266.out)) : gb293 ≠ gb266))
     have n12_ := Aside0.mk ((by rw [hg]; exact Nat.ne_of_lt (blk_lt (g := gb267) (o := .cells #[.int .i64 0, .int .i64 0, .int .i64 0, .int .i64 0] 38 (0, 0)) (by (with_reducible repeat (first | refine blk_drewN ?_ _ | refine blk_drew ?_ | refine blk_alloc ?_ _)); exact BK267.out)) : gb267 ≠ gb293))
     have n13_ := Aside0.mk ((by rw [hg]; exact Nat.ne_of_gt (blk_lt (g := gb267) (o := .cells #[.int .i64 0, .int .i64 0, .int .i64 0, .int .i64 0] 38 (0, 0)) (by (with_reducible repeat (first | refine blk_drewN ?_ _ | refine blk_drew ?_ | refine blk_alloc ?_ _)); exact BK267.out)) : gb293 ≠ gb267))
     have n14_ := Aside0.mk ((by rw [hg]; exact Nat.ne_of_lt (blk_lt (g := gb268) (o := .cells #[.bool false, .int .i64 0, .bool false, .bool false] 50 (0, 0)) (by (with_reducible repeat (first | refine blk_drewN ?_ _ | refine blk_drew ?_ | refine blk_alloc ?_ _)); exact BK268.out)) : gb268 ≠ gb293))
     have n15_ := Aside0.mk ((by rw [hg]; exact Nat.ne_of_gt (blk_lt (g := gb268) (o := .cells #[.bool false, .int .i64 0, .bool false, .bool false] 50 (0, 0)) (by (with_reducible repeat (first | refine blk_drewN ?_ _ | refine blk_drew ?_ | refine blk_alloc ?_ _)); exact BK268.out)) : gb293 ≠ gb268))
     have n16_ := Aside0.mk ((by rw [hg]; exact Nat.ne_of_lt (blk_lt (g := gb281) (o := .cells #[.int .i64 (wrap64 (8 * t269)), .int .i64 (wrap64 (8 * t272)), .int .i64 (wrap64 (8 + (wrap64 (8 * t275)))), .int .i64 (wrap64 (8 + (wrap64 (8 * t278))))] 38 (0, 0)) (by (with_reducible repeat (first | refine blk_drewN ?_ _ | refine blk_drew ?_ | refine blk_alloc ?_ _)); exact BK281.out)) : gb281 ≠ gb293))
     have n17_ := Aside0.mk ((by rw [hg]; exact Nat.ne_of_gt (blk_lt (g := gb281) (o := .cells #[.int .i64 (wrap64 (8 * t269)), .int .i64 (wrap64 (8 * t272)), .int .i64 (wrap64 (8 + (wrap64 (8 * t275)))), .int .i64 (wrap64 (8 + (wrap64 (8 * t278))))] 38 (0, 0)) (by (with_reducible repeat (first | refine blk_drewN ?_ _ | refine blk_drew ?_ | refine blk_alloc ?_ _)); exact BK281.out)) : gb293 ≠ gb281))
     have n18_ := Aside0.mk ((by rw [hg]; exact Nat.ne_of_lt (IsS116.lt (show IsS116 w0 _ g s0_0 t291 t292 from by repeat (first | (with_reducible first | exact HI0.out | apply IsS116.alloc | apply IsS116.drewN | apply IsS116.drew | apply IsS116.set_1 | apply IsS116.set_2 | refine IsS116.far ?_ NB0_266.out _ | refine IsS116.far ?_ NB0_267.out _ | refine IsS116.far ?_ NB0_268.out _ | refine IsS116.far ?_ NB0_281.out _) | exact HI0.out))) : g ≠ gb293))
     have n19_ := Aside0.mk ((by rw [hg]; exact Nat.ne_of_gt (IsS116.lt (show IsS116 w0 _ g s0_0 t291 t292 from by repeat (first | (with_reducible first | exact HI0.out | apply IsS116.alloc | apply IsS116.drewN | apply IsS116.drew | apply IsS116.set_1 | apply IsS116.set_2 | refine IsS116.far ?_ NB0_266.out _ | refine IsS116.far ?_ NB0_267.out _ | refine IsS116.far ?_ NB0_268.out _ | refine IsS116.far ?_ NB0_281.out _) | exact HI0.out))) : gb293 ≠ g))
     clear HI0
     clear BK266
     clear BK267
     clear BK268
     clear BK281
     clear HK
     clear HB
     have HI0 := n0_
     have BK266 := n1_
     have BK267 := n2_
     have BK268 := n3_
     have BK281 := n4_
     have HK := n5_
     have HB := n6_
     have BK293 := n7_
     have GW293 := n8_
     have GE293 := n9_
     have NB266_293 := n10_
     have NB293_266 := n11_
     have NB267_293 := n12_
     have NB293_267 := n13_
     have NB268_293 := n14_
     have NB293_268 := n15_
     have NB281_293 := n16_
     have NB293_281 := n17_
     have NB0_293 := n18_
     have NB293_0 := n19_
     clear n0_ n1_ n2_ n3_ n4_ n5_ n6_ n7_ n8_ n9_ n10_ n11_ n12_ n13_ n14_ n15_ n16_ n17_ n18_ n19_
     clear hb hbox hg
     refine hK.out _ _ ⟨(blk_cell BK281.out 0).trans rfl, (blk_cell BK281.out 1).trans rfl, (blk_cell BK281.out 2).trans rfl, (blk_cell BK281.out 3).trans rfl⟩ (fun hHeld => ?_)
     clear hK K
     refine norm_ (a' := ?_) ?_ ?_
     rotate_left
     ·show Act.put _ (some 8) _ = _
      simp only [Act.put, List.setIfInBounds_toArray, List.set_cons_zero, List.set_cons_succ, i64_w, i32_w]
      rfl
     exact norm_ (by simp only [putAll, Act.put, List.setIfInBounds_toArray, List.set_cons_zero, List.set_cons_succ]) (hCont (gb293) _ ⟨hHeld, (by (with_reducible repeat (first | refine blk_drewN ?_ _ | refine blk_drew ?_ | refine blk_alloc ?_ _)); exact BK266.out), (by (with_reducible repeat (first | refine blk_drewN ?_ _ | refine blk_drew ?_ | refine blk_alloc ?_ _)); exact BK267.out), (by (with_reducible repeat (first | refine blk_drewN ?_ _ | refine blk_drew ?_ | refine blk_alloc ?_ _)); exact BK268.out), (by (with_reducible repeat (first | refine blk_drewN ?_ _ | refine blk_drew ?_ | refine blk_alloc ?_ _)); exact BK281.out), (by (with_reducible repeat (first | refine blk_drewN ?_ _ | refine blk_drew ?_ | refine blk_alloc ?_ _)); exact BK293.out), GW293.out, GE293.out, NB0_293.out, NB293_0.out, NB266_293.out, NB293_266.out, NB267_293.out, NB293_267.out, NB268_293.out, NB293_268.out, NB281_293.out, NB293_281.out, (by repeat (first | (with_reducible first | exact HI0.out | apply IsS116.alloc | apply IsS116.drewN | apply IsS116.drew | apply IsS116.set_1 | apply IsS116.set_2 | refine IsS116.far ?_ NB0_266.out _ | refine IsS116.far ?_ NB0_267.out _ | refine IsS116.far ?_ NB0_268.out _ | refine IsS116.far ?_ NB0_281.out _ | refine IsS116.far ?_ NB0_293.out _) | exact HI0.out)), (by repeat (first | (with_reducible first | exact HK.out | apply KeepBut.set_ | apply keep_drewN | apply keep_drew | apply keep_alloc | refine keep_far ?_ GW266.out _ | refine keep_far ?_ GW267.out _ | refine keep_far ?_ GW268.out _ | refine keep_far ?_ GW281.out _ | refine keep_far ?_ GW293.out _) | exact HK.out)), (by repeat (first | (with_reducible first | exact HB.out | apply below_alloc | apply pw_below_drewN | apply below_drew1 | refine below_set ?_ (IsS116.ge HI0.out) | refine below_set ?_ GE266.out | refine below_set ?_ GE267.out | refine below_set ?_ GE268.out | refine below_set ?_ GE281.out | refine below_set ?_ GE293.out) | exact HB.out))⟩)
    ·skip
     refine box_step ?hg (N := 8) ?hd (cs := #[.int .i64 0, .int .i64 0, .string (⟨#[]⟩ : ByteArray)]) (t := 25) ?hr ?_; (case hd => rfl); (case hg => rfl); (case hr => first | (go_simp; done) | (go_simp; rfl))
     intro gb293 hg w29 hbox hb
     have n0_ := Aside0.mk (IsS116.below (by repeat (first | (with_reducible first | exact HI0.out | apply IsS116.alloc | apply IsS116.drewN | apply IsS116.drew | apply IsS116.set_1 | apply IsS116.set_2 | refine IsS116.far ?_ NB0_266.out _ | refine IsS116.far ?_ NB0_267.out _ | refine IsS116.far ?_ NB0_268.out _ | refine IsS116.far ?_ NB0_281.out _) | exact HI0.out)) hb)
     have n1_ := Aside0.mk (blk_below (g := gb266) (o := .cells #[.int .i64 0, .int .i64 0, .string (⟨#[]⟩ : ByteArray)] 25 (0, 0)) (by (with_reducible repeat (first | refine blk_drewN ?_ _ | refine blk_drew ?_ | refine blk_alloc ?_ _)); exact BK266.out) hb)
     have n2_ := Aside0.mk (blk_below (g := gb267) (o := .cells #[.int .i64 0, .int .i64 0, .int .i64 0, .int .i64 0] 38 (0, 0)) (by (with_reducible repeat (first | refine blk_drewN ?_ _ | refine blk_drew ?_ | refine blk_alloc ?_ _)); exact BK267.out) hb)
     have n3_ := Aside0.mk (blk_below (g := gb268) (o := .cells #[.bool false, .int .i64 0, .bool false, .bool false] 50 (0, 0)) (by (with_reducible repeat (first | refine blk_drewN ?_ _ | refine blk_drew ?_ | refine blk_alloc ?_ _)); exact BK268.out) hb)
     have n4_ := Aside0.mk (blk_below (g := gb281) (o := .cells #[.int .i64 (wrap64 (8 * t269)), .int .i64 (wrap64 (8 * t272)), .int .i64 (wrap64 (8 + (wrap64 (8 * t275)))), .int .i64 (wrap64 (8 + (wrap64 (8 * t278))))] 38 (0, 0)) (by (with_reducible repeat (first | refine blk_drewN ?_ _ | refine blk_drew ?_ | refine blk_alloc ?_ _)); exact BK281.out) hb)
     have n5_ := Aside0.mk (KeepBut.trans (by repeat (first | (with_reducible first | exact HK.out | apply KeepBut.set_ | apply keep_drewN | apply keep_drew | apply keep_alloc | refine keep_far ?_ GW266.out _ | refine keep_far ?_ GW267.out _ | refine keep_far ?_ GW268.out _ | refine keep_far ?_ GW281.out _) | exact HK.out)) (KeepBut.of_below hb g none) (.inl rfl))
     have n6_ := Aside0.mk (below_step (by repeat (first | (with_reducible first | exact HB.out | apply below_alloc | apply pw_below_drewN | apply below_drew1 | refine below_set ?_ (IsS116.ge HI0.out) | refine below_set ?_ GE266.out | refine below_set ?_ GE267.out | refine below_set ?_ GE268.out | refine below_set ?_ GE281.out) | exact HB.out)) hb)
     have n7_ := Aside0.mk (hbox)
     have n8_ := Aside0.mk ((by rw [hg]; exact (keep_size (w := w) (g := g) (row := none) (by repeat (first | (with_reducible first | exact HK.out | apply KeepBut.set_ | apply keep_drewN | apply keep_drew | apply keep_alloc | refine keep_far ?_ GW266.out _ | refine keep_far ?_ GW267.out _ | refine keep_far ?_ GW268.out _ | refine keep_far ?_ GW281.out _) | exact HK.out))) : w.heap.size ≤ gb293))
     have n9_ := Aside0.mk ((Nat.le_trans HW0.out (by rw [hg]; exact (keep_size (w := w) (g := g) (row := none) (by repeat (first | (with_reducible first | exact HK.out | apply KeepBut.set_ | apply keep_drewN | apply keep_drew | apply keep_alloc | refine keep_far ?_ GW266.out _ | refine keep_far ?_ GW267.out _ | refine keep_far ?_ GW268.out _ | refine keep_far ?_ GW281.out _) | exact HK.out))) : w.heap.size ≤ gb293) : w0.heap.size ≤ gb293))
     have n10_ := Aside0.mk ((by rw [hg]; exact Nat.ne_of_lt (blk_lt (g := gb266) (o := .cells #[.int .i64 0, .int .i64 0, .string (⟨#[]⟩ : ByteArray)] 25 (0, 0)) (by (with_reducible repeat (first | refine blk_drewN ?_ _ | refine blk_drew ?_ | refine blk_alloc ?_ _)); exact BK266.out)) : gb266 ≠ gb293))
     have n11_ := Aside0.mk ((by rw [hg]; exact Nat.ne_of_gt (blk_lt (g := gb266) (o := .cells #[.int .i64 0, .int .i64 0, .string (⟨#[]⟩ : ByteArray)] 25 (0, 0)) (by (with_reducible repeat (first | refine blk_drewN ?_ _ | refine blk_drew ?_ | refine blk_alloc ?_ _)); exact BK266.out)) : gb293 ≠ gb266))
     have n12_ := Aside0.mk ((by rw [hg]; exact Nat.ne_of_lt (blk_lt (g := gb267) (o := .cells #[.int .i64 0, .int .i64 0, .int .i64 0, .int .i64 0] 38 (0, 0)) (by (with_reducible repeat (first | refine blk_drewN ?_ _ | refine blk_drew ?_ | refine blk_alloc ?_ _)); exact BK267.out)) : gb267 ≠ gb293))
     have n13_ := Aside0.mk ((by rw [hg]; exact Nat.ne_of_gt (blk_lt (g := gb267) (o := .cells #[.int .i64 0, .int .i64 0, .int .i64 0, .int .i64 0] 38 (0, 0)) (by (with_reducible repeat (first | refine blk_drewN ?_ _ | refine blk_drew ?_ | refine blk_alloc ?_ _)); exact BK267.out)) : gb293 ≠ gb267))
     have n14_ := Aside0.mk ((by rw [hg]; exact Nat.ne_of_lt (blk_lt (g := gb268) (o := .cells #[.bool false, .int .i64 0, .bool false, .bool false] 50 (0, 0)) (by (with_reducible repeat (first | refine blk_drewN ?_ _ | refine blk_drew ?_ | refine blk_alloc ?_ _)); exact BK268.out)) : gb268 ≠ gb293))
     have n15_ := Aside0.mk ((by rw [hg]; exact Nat.ne_of_gt (blk_lt (g := gb268) (o := .cells #[.bool false, .int .i64 0, .bool false, .bool false] 50 (0, 0)) (by (with_reducible repeat (first | refine blk_drewN ?_ _ | refine blk_drew ?_ | refine blk_alloc ?_ _)); exact BK268.out)) : gb293 ≠ gb268))
     have n16_ := Aside0.mk ((by rw [hg]; exact Nat.ne_of_lt (blk_lt (g := gb281) (o := .cells #[.int .i64 (wrap64 (8 * t269)), .int .i64 (wrap64 (8 * t272)), .int .i64 (wrap64 (8 + (wrap64 (8 * t275)))), .int .i64 (wrap64 (8 + (wrap64 (8 * t278))))] 38 (0, 0)) (by (with_reducible repeat (first | refine blk_drewN ?_ _ | refine blk_drew ?_ | refine blk_alloc ?_ _)); exact BK281.out)) : gb281 ≠ gb293))
     have n17_ := Aside0.mk ((by rw [hg]; exact Nat.ne_of_gt (blk_lt (g := gb281) (o := .cells #[.int .i64 (wrap64 (8 * t269)), .int .i64 (wrap64 (8 * t272)), .int .i64 (wrap64 (8 + (wrap64 (8 * t275)))), .int .i64 (wrap64 (8 + (wrap64 (8 * t278))))] 38 (0, 0)) (by (with_reducible repeat (first | refine blk_drewN ?_ _ | refine blk_drew ?_ | refine blk_alloc ?_ _)); exact BK281.out)) : gb293 ≠ gb281))
     have n18_ := Aside0.mk ((by rw [hg]; exact Nat.ne_of_lt (IsS116.lt (show IsS116 w0 _ g s0_0 t286 t287 from by repeat (first | (with_reducible first | exact HI0.out | apply IsS116.alloc | apply IsS116.drewN | apply IsS116.drew | apply IsS116.set_1 | apply IsS116.set_2 | refine IsS116.far ?_ NB0_266.out _ | refine IsS116.far ?_ NB0_267.out _ | refine IsS116.far ?_ NB0_268.out _ | refine IsS116.far ?_ NB0_281.out _) | exact HI0.out))) : g ≠ gb293))
     have n19_ := Aside0.mk ((by rw [hg]; exact Nat.ne_of_gt (IsS116.lt (show IsS116 w0 _ g s0_0 t286 t287 from by repeat (first | (with_reducible first | exact HI0.out | apply IsS116.alloc | apply IsS116.drewN | apply IsS116.drew | apply IsS116.set_1 | apply IsS116.set_2 | refine IsS116.far ?_ NB0_266.out _ | refine IsS116.far ?_ NB0_267.out _ | refine IsS116.far ?_ NB0_268.out _ | refine IsS116.far ?_ NB0_281.out _) | exact HI0.out))) : gb293 ≠ g))
     clear HI0
     clear BK266
     clear BK267
     clear BK268
     clear BK281
     clear HK
     clear HB
     have HI0 := n0_
     have BK266 := n1_
     have BK267 := n2_
     have BK268 := n3_
     have BK281 := n4_
     have HK := n5_
     have HB := n6_
     have BK293 := n7_
     have GW293 := n8_
     have GE293 := n9_
     have NB266_293 := n10_
     have NB293_266 := n11_
     have NB267_293 := n12_
     have NB293_267 := n13_
     have NB268_293 := n14_
     have NB293_268 := n15_
     have NB281_293 := n16_
     have NB293_281 := n17_
     have NB0_293 := n18_
     have NB293_0 := n19_
     clear n0_ n1_ n2_ n3_ n4_ n5_ n6_ n7_ n8_ n9_ n10_ n11_ n12_ n13_ n14_ n15_ n16_ n17_ n18_ n19_
     clear hb hbox hg
     refine hK.out _ _ ⟨(blk_cell BK281.out 0).trans rfl, (blk_cell BK281.out 1).trans rfl, (blk_cell BK281.out 2).trans rfl, (blk_cell BK281.out 3).trans rfl⟩ (fun hHeld => ?_)
     clear hK K
     refine norm_ (a' := ?_) ?_ ?_
     rotate_left
     ·show Act.put _ (some 8) _ = _
      simp only [Act.put, List.setIfInBounds_toArray, List.set_cons_zero, List.set_cons_succ, i64_w, i32_w]
      rfl
     refine one_ (i := 18) (N := some 43) #[true, true, true, true, true, true, true, true, true, true, true, true, true, true, true, true, true, true, true, true, false] rfl rfl (one_of HT_.out (by kernel_rfl)) (by decide) (fun K hK => ?_)
     refine goes_ Try.func85 (by kernel_rfl) rfl #[.pointer (some ⟨g, 0, none⟩), .int .i64 (wrap64 ((wrap64 ((wrap64 (8 * t269)) + (wrap64 (8 + (wrap64 (8 * t275)))))) + (wrap64 (8 * t282)))), .int .i64 (wrap64 ((wrap64 ((wrap64 (8 * t272)) + (wrap64 (8 + (wrap64 (8 * t278)))))) + t285))] (by rfl) rfl rfl (by (try simp only [List.map_toArray, List.map_cons, List.map_nil]); first | done | rfl | (simp only [List.length_drop, List.length_take]; rfl)) ?_
     with_reducible refine (spec_l12Sized.calls k g s0_0 t286 t287 (wrap64 ((wrap64 ((wrap64 (8 * t269)) + (wrap64 (8 + (wrap64 (8 * t275)))))) + (wrap64 (8 * t282)))) (wrap64 ((wrap64 ((wrap64 (8 * t272)) + (wrap64 (8 + (wrap64 (8 * t278)))))) + t285)) t288 t289 t290 t291 t292 w0 _ ?side1 ?side2 A8.out).mono ?_
     (case side1 => repeat (first | (with_reducible first | exact HI0.out | apply IsS116.alloc | apply IsS116.drewN | apply IsS116.drew | apply IsS116.set_1 | apply IsS116.set_2 | refine IsS116.far ?_ NB0_266.out _ | refine IsS116.far ?_ NB0_267.out _ | refine IsS116.far ?_ NB0_268.out _ | refine IsS116.far ?_ NB0_281.out _ | refine IsS116.far ?_ NB0_293.out _) | exact HI0.out))
     (case side2 => repeat (first | (with_reducible first | exact HB.out | apply below_alloc | apply pw_below_drewN | apply below_drew1 | refine below_set ?_ (IsS116.ge HI0.out) | refine below_set ?_ GE266.out | refine below_set ?_ GE267.out | refine below_set ?_ GE268.out | refine below_set ?_ GE281.out | refine below_set ?_ GE293.out) | exact HB.out))
     rintro e w30 ⟨rfl, hi, hb, hk⟩
     refine ⟨_, rfl, ?_⟩
     have n0_ := Aside0.mk (KeepBut.blk hk (g' := gb266) (o := .cells #[.int .i64 0, .int .i64 0, .string (⟨#[]⟩ : ByteArray)] 25 (0, 0)) (by (with_reducible repeat (first | refine blk_drewN ?_ _ | refine blk_drew ?_ | refine blk_alloc ?_ _)); exact BK266.out) NB266_0.out (by simp))
     have n1_ := Aside0.mk (KeepBut.blk hk (g' := gb267) (o := .cells #[.int .i64 0, .int .i64 0, .int .i64 0, .int .i64 0] 38 (0, 0)) (by (with_reducible repeat (first | refine blk_drewN ?_ _ | refine blk_drew ?_ | refine blk_alloc ?_ _)); exact BK267.out) NB267_0.out (by simp))
     have n2_ := Aside0.mk (KeepBut.blk hk (g' := gb268) (o := .cells #[.bool false, .int .i64 0, .bool false, .bool false] 50 (0, 0)) (by (with_reducible repeat (first | refine blk_drewN ?_ _ | refine blk_drew ?_ | refine blk_alloc ?_ _)); exact BK268.out) NB268_0.out (by simp))
     have n3_ := Aside0.mk (KeepBut.blk hk (g' := gb281) (o := .cells #[.int .i64 (wrap64 (8 * t269)), .int .i64 (wrap64 (8 * t272)), .int .i64 (wrap64 (8 + (wrap64 (8 * t275)))), .int .i64 (wrap64 (8 + (wrap64 (8 * t278))))] 38 (0, 0)) (by (with_reducible repeat (first | refine blk_drewN ?_ _ | refine blk_drew ?_ | refine blk_alloc ?_ _)); exact BK281.out) NB281_0.out (by simp))
     have n4_ := Aside0.mk (KeepBut.blk hk (g' := gb293) (o := .cells #[.int .i64 0, .int .i64 0, .string (⟨#[]⟩ : ByteArray)] 25 (0, 0)) (by (with_reducible repeat (first | refine blk_drewN ?_ _ | refine blk_drew ?_ | refine blk_alloc ?_ _)); exact BK293.out) NB293_0.out (by simp))
     have n5_ := Aside0.mk (KeepBut.trans (by repeat (first | (with_reducible first | exact HK.out | apply KeepBut.set_ | apply keep_drewN | apply keep_drew | apply keep_alloc | refine keep_far ?_ GW266.out _ | refine keep_far ?_ GW267.out _ | refine keep_far ?_ GW268.out _ | refine keep_far ?_ GW281.out _ | refine keep_far ?_ GW293.out _) | exact HK.out)) hk (.inl rfl))
     have n6_ := Aside0.mk (hb)
     have n7_ := Aside0.mk (hi)
     clear BK266
     clear BK267
     clear BK268
     clear BK281
     clear BK293
     clear HK
     clear HB
     clear HI0
     have BK266 := n0_
     have BK267 := n1_
     have BK268 := n2_
     have BK281 := n3_
     have BK293 := n4_
     have HK := n5_
     have HB := n6_
     have HI0 := n7_
     clear n0_ n1_ n2_ n3_ n4_ n5_ n6_ n7_
     (try clear hb)
     (try clear hb2)
     (try clear hk)
     (try clear hi)
     refine hK.out _ _ ⟨(blk_cell BK281.out 0).trans rfl, (blk_cell BK281.out 1).trans rfl, (blk_cell BK281.out 2).trans rfl, (blk_cell BK281.out 3).trans rfl⟩ (fun hHeld => ?_)
     clear hK K
     refine norm_ (a' := ?_) ?_ ?_
     rotate_left
     ·show Act.put _ (some 43) _ = _
      simp only [Act.put, List.setIfInBounds_toArray, List.set_cons_zero, List.set_cons_succ, i64_w, i32_w]
      rfl
     exact norm_ (by simp only [putAll, Act.put, List.setIfInBounds_toArray, List.set_cons_zero, List.set_cons_succ]) (hCont (gb293) _ ⟨hHeld, (by (with_reducible repeat (first | refine blk_drewN ?_ _ | refine blk_drew ?_ | refine blk_alloc ?_ _)); exact BK266.out), (by (with_reducible repeat (first | refine blk_drewN ?_ _ | refine blk_drew ?_ | refine blk_alloc ?_ _)); exact BK267.out), (by (with_reducible repeat (first | refine blk_drewN ?_ _ | refine blk_drew ?_ | refine blk_alloc ?_ _)); exact BK268.out), (by (with_reducible repeat (first | refine blk_drewN ?_ _ | refine blk_drew ?_ | refine blk_alloc ?_ _)); exact BK281.out), (by (with_reducible repeat (first | refine blk_drewN ?_ _ | refine blk_drew ?_ | refine blk_alloc ?_ _)); exact BK293.out), GW293.out, GE293.out, NB0_293.out, NB293_0.out, NB266_293.out, NB293_266.out, NB267_293.out, NB293_267.out, NB268_293.out, NB293_268.out, NB281_293.out, NB293_281.out, (by repeat (first | (with_reducible first | exact HI0.out | apply IsS116.alloc | apply IsS116.drewN | apply IsS116.drew | apply IsS116.set_1 | apply IsS116.set_2 | refine IsS116.far ?_ NB0_266.out _ | refine IsS116.far ?_ NB0_267.out _ | refine IsS116.far ?_ NB0_268.out _ | refine IsS116.far ?_ NB0_281.out _ | refine IsS116.far ?_ NB0_293.out _) | exact HI0.out)), (by repeat (first | (with_reducible first | exact HK.out | apply KeepBut.set_ | apply keep_drewN | apply keep_drew | apply keep_alloc | refine keep_far ?_ GW266.out _ | refine keep_far ?_ GW267.out _ | refine keep_far ?_ GW268.out _ | refine keep_far ?_ GW281.out _ | refine keep_far ?_ GW293.out _) | exact HK.out)), (by repeat (first | (with_reducible first | exact HB.out | apply below_alloc | apply pw_below_drewN | apply below_drew1 | refine below_set ?_ (IsS116.ge HI0.out) | refine below_set ?_ GE266.out | refine below_set ?_ GE267.out | refine below_set ?_ GE268.out | refine below_set ?_ GE281.out | refine below_set ?_ GE293.out) | exact HB.out))⟩)
   ·skip
    refine box_step ?hg (N := 8) ?hd (cs := #[.int .i64 0, .int .i64 0, .string (⟨#[]⟩ : ByteArray)]) (t := 25) ?hr ?_; (case hd => rfl); (case hg => rfl); (case hr => first | (go_simp; done) | (go_simp; rfl))
    intro gb293 hg w28 hbox hb
    have n0_ := Aside0.mk (IsS116.below (by repeat (first | (with_reducible first | exact HI0.out | apply IsS116.alloc | apply IsS116.drewN | apply IsS116.drew | apply IsS116.set_1 | apply IsS116.set_2 | refine IsS116.far ?_ NB0_266.out _ | refine IsS116.far ?_ NB0_267.out _ | refine IsS116.far ?_ NB0_268.out _ | refine IsS116.far ?_ NB0_281.out _) | exact HI0.out)) hb)
    have n1_ := Aside0.mk (blk_below (g := gb266) (o := .cells #[.int .i64 0, .int .i64 0, .string (⟨#[]⟩ : ByteArray)] 25 (0, 0)) (by (with_reducible repeat (first | refine blk_drewN ?_ _ | refine blk_drew ?_ | refine blk_alloc ?_ _)); exact BK266.out) hb)
    have n2_ := Aside0.mk (blk_below (g := gb267) (o := .cells #[.int .i64 0, .int .i64 0, .int .i64 0, .int .i64 0] 38 (0, 0)) (by (with_reducible repeat (first | refine blk_drewN ?_ _ | refine blk_drew ?_ | refine blk_alloc ?_ _)); exact BK267.out) hb)
    have n3_ := Aside0.mk (blk_below (g := gb268) (o := .cells #[.bool false, .int .i64 0, .bool false, .bool false] 50 (0, 0)) (by (with_reducible repeat (first | refine blk_drewN ?_ _ | refine blk_drew ?_ | refine blk_alloc ?_ _)); exact BK268.out) hb)
    have n4_ := Aside0.mk (blk_below (g := gb281) (o := .cells #[.int .i64 (wrap64 (8 * t269)), .int .i64 (wrap64 (8 * t272)), .int .i64 (wrap64 (8 + (wrap64 (8 * t275)))), .int .i64 (wrap64 (8 + (wrap64 (8 * t278))))] 38 (0, 0)) (by (with_reducible repeat (first | refine blk_drewN ?_ _ | refine blk_drew ?_ | refine blk_alloc ?_ _)); exact BK281.out) hb)
    have n5_ := Aside0.mk (KeepBut.trans (by repeat (first | (with_reducible first | exact HK.out | apply KeepBut.set_ | apply keep_drewN | apply keep_drew | apply keep_alloc | refine keep_far ?_ GW266.out _ | refine keep_far ?_ GW267.out _ | refine keep_far ?_ GW268.out _ | refine keep_far ?_ GW281.out _) | exact HK.out)) (KeepBut.of_below hb g none) (.inl rfl))
    have n6_ := Aside0.mk (below_step (by repeat (first | (with_reducible first | exact HB.out | apply below_alloc | apply pw_below_drewN | apply below_drew1 | refine below_set ?_ (IsS116.ge HI0.out) | refine below_set ?_ GE266.out | refine below_set ?_ GE267.out | refine below_set ?_ GE268.out | refine below_set ?_ GE281.out) | exact HB.out)) hb)
    have n7_ := Aside0.mk (hbox)
    have n8_ := Aside0.mk ((by rw [hg]; exact (keep_size (w := w) (g := g) (row := none) (by repeat (first | (with_reducible first | exact HK.out | apply KeepBut.set_ | apply keep_drewN | apply keep_drew | apply keep_alloc | refine keep_far ?_ GW266.out _ | refine keep_far ?_ GW267.out _ | refine keep_far ?_ GW268.out _ | refine keep_far ?_ GW281.out _) | exact HK.out))) : w.heap.size ≤ gb293))
    have n9_ := Aside0.mk ((Nat.le_trans HW0.out (by rw [hg]; exact (keep_size (w := w) (g := g) (row := none) (by repeat (first | (with_reducible first | exact HK.out | apply KeepBut.set_ | apply keep_drewN | apply keep_drew | apply keep_alloc | refine keep_far ?_ GW266.out _ | refine keep_far ?_ GW267.out _ | refine keep_far ?_ GW268.out _ | refine keep_far ?_ GW281.out _) | exact HK.out))) : w.heap.size ≤ gb293) : w0.heap.size ≤ gb293))
    have n10_ := Aside0.mk ((by rw [hg]; exact Nat.ne_of_lt (blk_lt (g := gb266) (o := .cells #[.int .i64 0, .int .i64 0, .string (⟨#[]⟩ : ByteArray)] 25 (0, 0)) (by (with_reducible repeat (first | refine blk_drewN ?_ _ | refine blk_drew ?_ | refine blk_alloc ?_ _)); exact BK266.out)) : gb266 ≠ gb293))
    have n11_ := Aside0.mk ((by rw [hg]; exact Nat.ne_of_gt (blk_lt (g := gb266) (o := .cells #[.int .i64 0, .int .i64 0, .string (⟨#[]⟩ : ByteArray)] 25 (0, 0)) (by (with_reducible repeat (first | refine blk_drewN ?_ _ | refine blk_drew ?_ | refine blk_alloc ?_ _)); exact BK266.out)) : gb293 ≠ gb266))
    have n12_ := Aside0.mk ((by rw [hg]; exact Nat.ne_of_lt (blk_lt (g := gb267) (o := .cells #[.int .i64 0, .int .i64 0, .int .i64 0, .int .i64 0] 38 (0, 0)) (by (with_reducible repeat (first | refine blk_drewN ?_ _ | refine blk_drew ?_ | refine blk_alloc ?_ _)); exact BK267.out)) : gb267 ≠ gb293))
    have n13_ := Aside0.mk ((by rw [hg]; exact Nat.ne_of_gt (blk_lt (g := gb267) (o := .cells #[.int .i64 0, .int .i64 0, .int .i64 0, .int .i64 0] 38 (0, 0)) (by (with_reducible repeat (first | refine blk_drewN ?_ _ | refine blk_drew ?_ | refine blk_alloc ?_ _)); exact BK267.out)) : gb293 ≠ gb267))
    have n14_ := Aside0.mk ((by rw [hg]; exact Nat.ne_of_lt (blk_lt (g := gb268) (o := .cells #[.bool false, .int .i64 0, .bool false, .bool false] 50 (0, 0)) (by (with_reducible repeat (first | refine blk_drewN ?_ _ | refine blk_drew ?_ | refine blk_alloc ?_ _)); exact BK268.out)) : gb268 ≠ gb293))
    have n15_ := Aside0.mk ((by rw [hg]; exact Nat.ne_of_gt (blk_lt (g := gb268) (o := .cells #[.bool false, .int .i64 0, .bool false, .bool false] 50 (0, 0)) (by (with_reducible repeat (first | refine blk_drewN ?_ _ | refine blk_drew ?_ | refine blk_alloc ?_ _)); exact BK268.out)) : gb293 ≠ gb268))
    have n16_ := Aside0.mk ((by rw [hg]; exact Nat.ne_of_lt (blk_lt (g := gb281) (o := .cells #[.int .i64 (wrap64 (8 * t269)), .int .i64 (wrap64 (8 * t272)), .int .i64 (wrap64 (8 + (wrap64 (8 * t275)))), .int .i64 (wrap64 (8 + (wrap64 (8 * t278))))] 38 (0, 0)) (by (with_reducible repeat (first | refine blk_drewN ?_ _ | refine blk_drew ?_ | refine blk_alloc ?_ _)); exact BK281.out)) : gb281 ≠ gb293))
    have n17_ := Aside0.mk ((by rw [hg]; exact Nat.ne_of_gt (blk_lt (g := gb281) (o := .cells #[.int .i64 (wrap64 (8 * t269)), .int .i64 (wrap64 (8 * t272)), .int .i64 (wrap64 (8 + (wrap64 (8 * t275)))), .int .i64 (wrap64 (8 + (wrap64 (8 * t278))))] 38 (0, 0)) (by (with_reducible repeat (first | refine blk_drewN ?_ _ | refine blk_drew ?_ | refine blk_alloc ?_ _)); exact BK281.out)) : gb293 ≠ gb281))
    have n18_ := Aside0.mk ((by rw [hg]; exact Nat.ne_of_lt (IsS116.lt (show IsS116 w0 _ g s0_0 t283 t284 from by repeat (first | (with_reducible first | exact HI0.out | apply IsS116.alloc | apply IsS116.drewN | apply IsS116.drew | apply IsS116.set_1 | apply IsS116.set_2 | refine IsS116.far ?_ NB0_266.out _ | refine IsS116.far ?_ NB0_267.out _ | refine IsS116.far ?_ NB0_268.out _ | refine IsS116.far ?_ NB0_281.out _) | exact HI0.out))) : g ≠ gb293))
    have n19_ := Aside0.mk ((by rw [hg]; exact Nat.ne_of_gt (IsS116.lt (show IsS116 w0 _ g s0_0 t283 t284 from by repeat (first | (with_reducible first | exact HI0.out | apply IsS116.alloc | apply IsS116.drewN | apply IsS116.drew | apply IsS116.set_1 | apply IsS116.set_2 | refine IsS116.far ?_ NB0_266.out _ | refine IsS116.far ?_ NB0_267.out _ | refine IsS116.far ?_ NB0_268.out _ | refine IsS116.far ?_ NB0_281.out _) | exact HI0.out))) : gb293 ≠ g))
    clear HI0
    clear BK266
    clear BK267
    clear BK268
    clear BK281
    clear HK
    clear HB
    have HI0 := n0_
    have BK266 := n1_
    have BK267 := n2_
    have BK268 := n3_
    have BK281 := n4_
    have HK := n5_
    have HB := n6_
    have BK293 := n7_
    have GW293 := n8_
    have GE293 := n9_
    have NB266_293 := n10_
    have NB293_266 := n11_
    have NB267_293 := n12_
    have NB293_267 := n13_
    have NB268_293 := n14_
    have NB293_268 := n15_
    have NB281_293 := n16_
    have NB293_281 := n17_
    have NB0_293 := n18_
    have NB293_0 := n19_
    clear n0_ n1_ n2_ n3_ n4_ n5_ n6_ n7_ n8_ n9_ n10_ n11_ n12_ n13_ n14_ n15_ n16_ n17_ n18_ n19_
    clear hb hbox hg
    refine hK.out _ _ ⟨(blk_cell BK281.out 0).trans rfl, (blk_cell BK281.out 1).trans rfl, (blk_cell BK281.out 2).trans rfl, (blk_cell BK281.out 3).trans rfl⟩ (fun hHeld => ?_)
    clear hK K
    refine norm_ (a' := ?_) ?_ ?_
    rotate_left
    ·show Act.put _ (some 8) _ = _
     simp only [Act.put, List.setIfInBounds_toArray, List.set_cons_zero, List.set_cons_succ, i64_w, i32_w]
     rfl
    refine one_ (i := 16) (N := some 41) #[true, true, true, true, true, true, true, true, true, true, true, true, true, true, true, true, true, false, false, true, false] rfl rfl (one_of HT_.out (by kernel_rfl)) (by decide) (fun K hK => ?_)
    refine goes_ Try.func50 (by kernel_rfl) rfl #[.pointer (some ⟨g, 0, none⟩), .int .i64 5] (by rfl) rfl rfl (by (try simp only [List.map_toArray, List.map_cons, List.map_nil]); first | done | rfl | (simp only [List.length_drop, List.length_take]; rfl)) ?_
    with_reducible refine (spec_l01Below.calls g s0_0 t283 t284 5 t285 t286 t287 w0 _ ?side1 ?side2 A7.out).mono ?_
    (case side1 => repeat (first | (with_reducible first | exact HI0.out | apply IsS116.alloc | apply IsS116.drewN | apply IsS116.drew | apply IsS116.set_1 | apply IsS116.set_2 | refine IsS116.far ?_ NB0_266.out _ | refine IsS116.far ?_ NB0_267.out _ | refine IsS116.far ?_ NB0_268.out _ | refine IsS116.far ?_ NB0_281.out _ | refine IsS116.far ?_ NB0_293.out _) | exact HI0.out))
    (case side2 => repeat (first | (with_reducible first | exact HB.out | apply below_alloc | apply pw_below_drewN | apply below_drew1 | refine below_set ?_ (IsS116.ge HI0.out) | refine below_set ?_ GE266.out | refine below_set ?_ GE267.out | refine below_set ?_ GE268.out | refine below_set ?_ GE281.out | refine below_set ?_ GE293.out) | exact HB.out))
    rintro e w29 ⟨rfl, hi, hb, hk⟩
    refine ⟨_, rfl, ?_⟩
    have n0_ := Aside0.mk (KeepBut.blk hk (g' := gb266) (o := .cells #[.int .i64 0, .int .i64 0, .string (⟨#[]⟩ : ByteArray)] 25 (0, 0)) (by (with_reducible repeat (first | refine blk_drewN ?_ _ | refine blk_drew ?_ | refine blk_alloc ?_ _)); exact BK266.out) NB266_0.out (by simp))
    have n1_ := Aside0.mk (KeepBut.blk hk (g' := gb267) (o := .cells #[.int .i64 0, .int .i64 0, .int .i64 0, .int .i64 0] 38 (0, 0)) (by (with_reducible repeat (first | refine blk_drewN ?_ _ | refine blk_drew ?_ | refine blk_alloc ?_ _)); exact BK267.out) NB267_0.out (by simp))
    have n2_ := Aside0.mk (KeepBut.blk hk (g' := gb268) (o := .cells #[.bool false, .int .i64 0, .bool false, .bool false] 50 (0, 0)) (by (with_reducible repeat (first | refine blk_drewN ?_ _ | refine blk_drew ?_ | refine blk_alloc ?_ _)); exact BK268.out) NB268_0.out (by simp))
    have n3_ := Aside0.mk (KeepBut.blk hk (g' := gb281) (o := .cells #[.int .i64 (wrap64 (8 * t269)), .int .i64 (wrap64 (8 * t272)), .int .i64 (wrap64 (8 + (wrap64 (8 * t275)))), .int .i64 (wrap64 (8 + (wrap64 (8 * t278))))] 38 (0, 0)) (by (with_reducible repeat (first | refine blk_drewN ?_ _ | refine blk_drew ?_ | refine blk_alloc ?_ _)); exact BK281.out) NB281_0.out (by simp))
    have n4_ := Aside0.mk (KeepBut.blk hk (g' := gb293) (o := .cells #[.int .i64 0, .int .i64 0, .string (⟨#[]⟩ : ByteArray)] 25 (0, 0)) (by (with_reducible repeat (first | refine blk_drewN ?_ _ | refine blk_drew ?_ | refine blk_alloc ?_ _)); exact BK293.out) NB293_0.out (by simp))
    have n5_ := Aside0.mk (KeepBut.trans (by repeat (first | (with_reducible first | exact HK.out | apply KeepBut.set_ | apply keep_drewN | apply keep_drew | apply keep_alloc | refine keep_far ?_ GW266.out _ | refine keep_far ?_ GW267.out _ | refine keep_far ?_ GW268.out _ | refine keep_far ?_ GW281.out _ | refine keep_far ?_ GW293.out _) | exact HK.out)) hk (.inl rfl))
    have n6_ := Aside0.mk (hb)
    have n7_ := Aside0.mk (hi)
    clear BK266
    clear BK267
    clear BK268
    clear BK281
    clear BK293
    clear HK
    clear HB
    clear HI0
    have BK266 := n0_
    have BK267 := n1_
    have BK268 := n2_
    have BK281 := n3_
    have BK293 := n4_
    have HK := n5_
    have HB := n6_
    have HI0 := n7_
    clear n0_ n1_ n2_ n3_ n4_ n5_ n6_ n7_
    (try clear hb)
    (try clear hb2)
    (try clear hk)
    (try clear hi)
    refine hK.out _ _ ⟨(blk_cell BK281.out 0).trans rfl, (blk_cell BK281.out 1).trans rfl, (blk_cell BK281.out 2).trans rfl, (blk_cell BK281.out 3).trans rfl⟩ (fun hHeld => ?_)
    clear hK K
    refine norm_ (a' := ?_) ?_ ?_
    rotate_left
    ·show Act.put _ (some 41) _ = _
     simp only [Act.put, List.setIfInBounds_toArray, List.set_cons_zero, List.set_cons_succ, i64_w, i32_w]
     rfl
    refine pure_ (i := 17) (N := some 42) (v := ?_) (a' := ?_) #[true, true, true, true, true, true, true, true, true, true, true, true, true, true, true, true, true, true, false, true, false] rfl rfl (any_of HT_.out (by kernel_rfl)) (fun _ _ _ h => h) (Or.inl ⟨by rfl, ?_⟩) ?_ ?_
    rotate_left
    ·intro w'
     go_simp
     with_reducible rfl
    rotate_left
    ·simp only [Act.put, List.setIfInBounds_toArray, List.set_cons_zero, List.set_cons_succ, i64_w, i32_w]
     rfl
    refine one_ (i := 18) (N := some 43) #[true, true, true, true, true, true, true, true, true, true, true, true, true, true, true, true, true, true, true, true, false] rfl rfl (one_of HT_.out (by kernel_rfl)) (by decide) (fun K hK => ?_)
    refine goes_ Try.func85 (by kernel_rfl) rfl #[.pointer (some ⟨g, 0, none⟩), .int .i64 (wrap64 ((wrap64 ((wrap64 (8 * t269)) + (wrap64 (8 + (wrap64 (8 * t275)))))) + (wrap64 (8 * t282)))), .int .i64 (wrap64 ((wrap64 ((wrap64 (8 * t272)) + (wrap64 (8 + (wrap64 (8 * t278)))))) + t285))] (by rfl) rfl rfl (by (try simp only [List.map_toArray, List.map_cons, List.map_nil]); first | done | rfl | (simp only [List.length_drop, List.length_take]; rfl)) ?_
    with_reducible refine (spec_l12Sized.calls k g s0_0 t286 t287 (wrap64 ((wrap64 ((wrap64 (8 * t269)) + (wrap64 (8 + (wrap64 (8 * t275)))))) + (wrap64 (8 * t282)))) (wrap64 ((wrap64 ((wrap64 (8 * t272)) + (wrap64 (8 + (wrap64 (8 * t278)))))) + t285)) t288 t289 t290 t291 t292 w0 _ ?side1 ?side2 A8.out).mono ?_
    (case side1 => repeat (first | (with_reducible first | exact HI0.out | apply IsS116.alloc | apply IsS116.drewN | apply IsS116.drew | apply IsS116.set_1 | apply IsS116.set_2 | refine IsS116.far ?_ NB0_266.out _ | refine IsS116.far ?_ NB0_267.out _ | refine IsS116.far ?_ NB0_268.out _ | refine IsS116.far ?_ NB0_281.out _ | refine IsS116.far ?_ NB0_293.out _) | exact HI0.out))
    (case side2 => repeat (first | (with_reducible first | exact HB.out | apply below_alloc | apply pw_below_drewN | apply below_drew1 | refine below_set ?_ (IsS116.ge HI0.out) | refine below_set ?_ GE266.out | refine below_set ?_ GE267.out | refine below_set ?_ GE268.out | refine below_set ?_ GE281.out | refine below_set ?_ GE293.out) | exact HB.out))
    rintro e w30 ⟨rfl, hi, hb, hk⟩
    refine ⟨_, rfl, ?_⟩
    have n0_ := Aside0.mk (KeepBut.blk hk (g' := gb266) (o := .cells #[.int .i64 0, .int .i64 0, .string (⟨#[]⟩ : ByteArray)] 25 (0, 0)) (by (with_reducible repeat (first | refine blk_drewN ?_ _ | refine blk_drew ?_ | refine blk_alloc ?_ _)); exact BK266.out) NB266_0.out (by simp))
    have n1_ := Aside0.mk (KeepBut.blk hk (g' := gb267) (o := .cells #[.int .i64 0, .int .i64 0, .int .i64 0, .int .i64 0] 38 (0, 0)) (by (with_reducible repeat (first | refine blk_drewN ?_ _ | refine blk_drew ?_ | refine blk_alloc ?_ _)); exact BK267.out) NB267_0.out (by simp))
    have n2_ := Aside0.mk (KeepBut.blk hk (g' := gb268) (o := .cells #[.bool false, .int .i64 0, .bool false, .bool false] 50 (0, 0)) (by (with_reducible repeat (first | refine blk_drewN ?_ _ | refine blk_drew ?_ | refine blk_alloc ?_ _)); exact BK268.out) NB268_0.out (by simp))
    have n3_ := Aside0.mk (KeepBut.blk hk (g' := gb281) (o := .cells #[.int .i64 (wrap64 (8 * t269)), .int .i64 (wrap64 (8 * t272)), .int .i64 (wrap64 (8 + (wrap64 (8 * t275)))), .int .i64 (wrap64 (8 + (wrap64 (8 * t278))))] 38 (0, 0)) (by (with_reducible repeat (first | refine blk_drewN ?_ _ | refine blk_drew ?_ | refine blk_alloc ?_ _)); exact BK281.out) NB281_0.out (by simp))
    have n4_ := Aside0.mk (KeepBut.blk hk (g' := gb293) (o := .cells #[.int .i64 0, .int .i64 0, .string (⟨#[]⟩ : ByteArray)] 25 (0, 0)) (by (with_reducible repeat (first | refine blk_drewN ?_ _ | refine blk_drew ?_ | refine blk_alloc ?_ _)); exact BK293.out) NB293_0.out (by simp))
    have n5_ := Aside0.mk (KeepBut.trans (by repeat (first | (with_reducible first | exact HK.out | apply KeepBut.set_ | apply keep_drewN | apply keep_drew | apply keep_alloc | refine keep_far ?_ GW266.out _ | refine keep_far ?_ GW267.out _ | refine keep_far ?_ GW268.out _ | refine keep_far ?_ GW281.out _ | refine keep_far ?_ GW293.out _) | exact HK.out)) hk (.inl rfl))
    have n6_ := Aside0.mk (hb)
    have n7_ := Aside0.mk (hi)
    clear BK266
    clear BK267
    clear BK268
    clear BK281
    clear BK293
    clear HK
    clear HB
    clear HI0
    have BK266 := n0_
    have BK267 := n1_
    have BK268 := n2_
    have BK281 := n3_
    have BK293 := n4_
    have HK := n5_
    have HB := n6_
    have HI0 := n7_
    clear n0_ n1_ n2_ n3_ n4_ n5_ n6_ n7_
    (try clear hb)
    (try clear hb2)
    (try clear hk)
    (try clear hi)
    refine hK.out _ _ ⟨(blk_cell BK281.out 0).trans rfl, (blk_cell BK281.out 1).trans rfl, (blk_cell BK281.out 2).trans rfl, (blk_cell BK281.out 3).trans rfl⟩ (fun hHeld => ?_)
    clear hK K
    refine norm_ (a' := ?_) ?_ ?_
    rotate_left
    ·show Act.put _ (some 43) _ = _
     simp only [Act.put, List.setIfInBounds_toArray, List.set_cons_zero, List.set_cons_succ, i64_w, i32_w]
     rfl
    exact norm_ (by simp only [putAll, Act.put, List.setIfInBounds_toArray, List.set_cons_zero, List.set_cons_succ]) (hCont (gb293) _ ⟨hHeld, (by (with_reducible repeat (first | refine blk_drewN ?_ _ | refine blk_drew ?_ | refine blk_alloc ?_ _)); exact BK266.out), (by (with_reducible repeat (first | refine blk_drewN ?_ _ | refine blk_drew ?_ | refine blk_alloc ?_ _)); exact BK267.out), (by (with_reducible repeat (first | refine blk_drewN ?_ _ | refine blk_drew ?_ | refine blk_alloc ?_ _)); exact BK268.out), (by (with_reducible repeat (first | refine blk_drewN ?_ _ | refine blk_drew ?_ | refine blk_alloc ?_ _)); exact BK281.out), (by (with_reducible repeat (first | refine blk_drewN ?_ _ | refine blk_drew ?_ | refine blk_alloc ?_ _)); exact BK293.out), GW293.out, GE293.out, NB0_293.out, NB293_0.out, NB266_293.out, NB293_266.out, NB267_293.out, NB293_267.out, NB268_293.out, NB293_268.out, NB281_293.out, NB293_281.out, (by repeat (first | (with_reducible first | exact HI0.out | apply IsS116.alloc | apply IsS116.drewN | apply IsS116.drew | apply IsS116.set_1 | apply IsS116.set_2 | refine IsS116.far ?_ NB0_266.out _ | refine IsS116.far ?_ NB0_267.out _ | refine IsS116.far ?_ NB0_268.out _ | refine IsS116.far ?_ NB0_281.out _ | refine IsS116.far ?_ NB0_293.out _) | exact HI0.out)), (by repeat (first | (with_reducible first | exact HK.out | apply KeepBut.set_ | apply keep_drewN | apply keep_drew | apply keep_alloc | refine keep_far ?_ GW266.out _ | refine keep_far ?_ GW267.out _ | refine keep_far ?_ GW268.out _ | refine keep_far ?_ GW281.out _ | refine keep_far ?_ GW293.out _) | exact HK.out)), (by repeat (first | (with_reducible first | exact HB.out | apply below_alloc | apply pw_below_drewN | apply below_drew1 | refine below_set ?_ (IsS116.ge HI0.out) | refine below_set ?_ GE266.out | refine below_set ?_ GE267.out | refine below_set ?_ GE268.out | refine below_set ?_ GE281.out | refine below_set ?_ GE293.out) | exact HB.out))⟩)
  ·skip
   refine box_step ?hg (N := 8) ?hd (cs := #[.int .i64 0, .int .i64 0, .string (⟨#[]⟩ : ByteArray)]) (t := 25) ?hr ?_; (case hd => rfl); (case hg => rfl); (case hr => first | (go_simp; done) | (go_simp; rfl))
   intro gb293 hg w27 hbox hb
   have n0_ := Aside0.mk (IsS116.below (by repeat (first | (with_reducible first | exact HI0.out | apply IsS116.alloc | apply IsS116.drewN | apply IsS116.drew | apply IsS116.set_1 | apply IsS116.set_2 | refine IsS116.far ?_ NB0_266.out _ | refine IsS116.far ?_ NB0_267.out _ | refine IsS116.far ?_ NB0_268.out _ | refine IsS116.far ?_ NB0_281.out _) | exact HI0.out)) hb)
   have n1_ := Aside0.mk (blk_below (g := gb266) (o := .cells #[.int .i64 0, .int .i64 0, .string (⟨#[]⟩ : ByteArray)] 25 (0, 0)) (by (with_reducible repeat (first | refine blk_drewN ?_ _ | refine blk_drew ?_ | refine blk_alloc ?_ _)); exact BK266.out) hb)
   have n2_ := Aside0.mk (blk_below (g := gb267) (o := .cells #[.int .i64 0, .int .i64 0, .int .i64 0, .int .i64 0] 38 (0, 0)) (by (with_reducible repeat (first | refine blk_drewN ?_ _ | refine blk_drew ?_ | refine blk_alloc ?_ _)); exact BK267.out) hb)
   have n3_ := Aside0.mk (blk_below (g := gb268) (o := .cells #[.bool false, .int .i64 0, .bool false, .bool false] 50 (0, 0)) (by (with_reducible repeat (first | refine blk_drewN ?_ _ | refine blk_drew ?_ | refine blk_alloc ?_ _)); exact BK268.out) hb)
   have n4_ := Aside0.mk (blk_below (g := gb281) (o := .cells #[.int .i64 (wrap64 (8 * t269)), .int .i64 (wrap64 (8 * t272)), .int .i64 (wrap64 (8 + (wrap64 (8 * t275)))), .int .i64 (wrap64 (8 + (wrap64 (8 * t278))))] 38 (0, 0)) (by (with_reducible repeat (first | refine blk_drewN ?_ _ | refine blk_drew ?_ | refine blk_alloc ?_ _)); exact BK281.out) hb)
   have n5_ := Aside0.mk (KeepBut.trans (by repeat (first | (with_reducible first | exact HK.out | apply KeepBut.set_ | apply keep_drewN | apply keep_drew | apply keep_alloc | refine keep_far ?_ GW266.out _ | refine keep_far ?_ GW267.out _ | refine keep_far ?_ GW268.out _ | refine keep_far ?_ GW281.out _) | exact HK.out)) (KeepBut.of_below hb g none) (.inl rfl))
   have n6_ := Aside0.mk (below_step (by repeat (first | (with_reducible first | exact HB.out | apply below_alloc | apply pw_below_drewN | apply below_drew1 | refine below_set ?_ (IsS116.ge HI0.out) | refine below_set ?_ GE266.out | refine below_set ?_ GE267.out | refine below_set ?_ GE268.out | refine below_set ?_ GE281.out) | exact HB.out)) hb)
   have n7_ := Aside0.mk (hbox)
   have n8_ := Aside0.mk ((by rw [hg]; exact (keep_size (w := w) (g := g) (row := none) (by repeat (first | (with_reducible first | exact HK.out | apply KeepBut.set_ | apply keep_drewN | apply keep_drew | apply keep_alloc | refine keep_far ?_ GW266.out _ | refine keep_far ?_ GW267.out _ | refine keep_far ?_ GW268.out _ | refine keep_far ?_ GW281.out _) | exact HK.out))) : w.heap.size ≤ gb293))
   have n9_ := Aside0.mk ((Nat.le_trans HW0.out (by rw [hg]; exact (keep_size (w := w) (g := g) (row := none) (by repeat (first | (with_reducible first | exact HK.out | apply KeepBut.set_ | apply keep_drewN | apply keep_drew | apply keep_alloc | refine keep_far ?_ GW266.out _ | refine keep_far ?_ GW267.out _ | refine keep_far ?_ GW268.out _ | refine keep_far ?_ GW281.out _) | exact HK.out))) : w.heap.size ≤ gb293) : w0.heap.size ≤ gb293))
   have n10_ := Aside0.mk ((by rw [hg]; exact Nat.ne_of_lt (blk_lt (g := gb266) (o := .cells #[.int .i64 0, .int .i64 0, .string (⟨#[]⟩ : ByteArray)] 25 (0, 0)) (by (with_reducible repeat (first | refine blk_drewN ?_ _ | refine blk_drew ?_ | refine blk_alloc ?_ _)); exact BK266.out)) : gb266 ≠ gb293))
   have n11_ := Aside0.mk ((by rw [hg]; exact Nat.ne_of_gt (blk_lt (g := gb266) (o := .cells #[.int .i64 0, .int .i64 0, .string (⟨#[]⟩ : ByteArray)] 25 (0, 0)) (by (with_reducible repeat (first | refine blk_drewN ?_ _ | refine blk_drew ?_ | refine blk_alloc ?_ _)); exact BK266.out)) : gb293 ≠ gb266))
   have n12_ := Aside0.mk ((by rw [hg]; exact Nat.ne_of_lt (blk_lt (g := gb267) (o := .cells #[.int .i64 0, .int .i64 0, .int .i64 0, .int .i64 0] 38 (0, 0)) (by (with_reducible repeat (first | refine blk_drewN ?_ _ | refine blk_drew ?_ | refine blk_alloc ?_ _)); exact BK267.out)) : gb267 ≠ gb293))
   have n13_ := Aside0.mk ((by rw [hg]; exact Nat.ne_of_gt (blk_lt (g := gb267) (o := .cells #[.int .i64 0, .int .i64 0, .int .i64 0, .int .i64 0] 38 (0, 0)) (by (with_reducible repeat (first | refine blk_drewN ?_ _ | refine blk_drew ?_ | refine blk_alloc ?_ _)); exact BK267.out)) : gb293 ≠ gb267))
   have n14_ := Aside0.mk ((by rw [hg]; exact Nat.ne_of_lt (blk_lt (g := gb268) (o := .cells #[.bool false, .int .i64 0, .bool false, .bool false] 50 (0, 0)) (by (with_reducible repeat (first | refine blk_drewN ?_ _ | refine blk_drew ?_ | refine blk_alloc ?_ _)); exact BK268.out)) : gb268 ≠ gb293))
   have n15_ := Aside0.mk ((by rw [hg]; exact Nat.ne_of_gt (blk_lt (g := gb268) (o := .cells #[.bool false, .int .i64 0, .bool false, .bool false] 50 (0, 0)) (by (with_reducible repeat (first | refine blk_drewN ?_ _ | refine blk_drew ?_ | refine blk_alloc ?_ _)); exact BK268.out)) : gb293 ≠ gb268))
   have n16_ := Aside0.mk ((by rw [hg]; exact Nat.ne_of_lt (blk_lt (g := gb281) (o := .cells #[.int .i64 (wrap64 (8 * t269)), .int .i64 (wrap64 (8 * t272)), .int .i64 (wrap64 (8 + (wrap64 (8 * t275)))), .int .i64 (wrap64 (8 + (wrap64 (8 * t278))))] 38 (0, 0)) (by (with_reducible repeat (first | refine blk_drewN ?_ _ | refine blk_drew ?_ | refine blk_alloc ?_ _)); exact BK281.out)) : gb281 ≠ gb293))
   have n17_ := Aside0.mk ((by rw [hg]; exact Nat.ne_of_gt (blk_lt (g := gb281) (o := .cells #[.int .i64 (wrap64 (8 * t269)), .int .i64 (wrap64 (8 * t272)), .int .i64 (wrap64 (8 + (wrap64 (8 * t275)))), .int .i64 (wrap64 (8 + (wrap64 (8 * t278))))] 38 (0, 0)) (by (with_reducible repeat (first | refine blk_drewN ?_ _ | refine blk_drew ?_ | refine blk_alloc ?_ _)); exact BK281.out)) : gb293 ≠ gb281))
   have n18_ := Aside0.mk ((by rw [hg]; exact Nat.ne_of_lt (IsS116.lt (show IsS116 w0 _ g s0_0 t279 t280 from by repeat (first | (with_reducible first | exact HI0.out | apply IsS116.alloc | apply IsS116.drewN | apply IsS116.drew | apply IsS116.set_1 | apply IsS116.set_2 | refine IsS116.far ?_ NB0_266.out _ | refine IsS116.far ?_ NB0_267.out _ | refine IsS116.far ?_ NB0_268.out _ | refine IsS116.far ?_ NB0_281.out _) | exact HI0.out))) : g ≠ gb293))
   have n19_ := Aside0.mk ((by rw [hg]; exact Nat.ne_of_gt (IsS116.lt (show IsS116 w0 _ g s0_0 t279 t280 from by repeat (first | (with_reducible first | exact HI0.out | apply IsS116.alloc | apply IsS116.drewN | apply IsS116.drew | apply IsS116.set_1 | apply IsS116.set_2 | refine IsS116.far ?_ NB0_266.out _ | refine IsS116.far ?_ NB0_267.out _ | refine IsS116.far ?_ NB0_268.out _ | refine IsS116.far ?_ NB0_281.out _) | exact HI0.out))) : gb293 ≠ g))
   clear HI0
   clear BK266
   clear BK267
   clear BK268
   clear BK281
   clear HK
   clear HB
   have HI0 := n0_
   have BK266 := n1_
   have BK267 := n2_
   have BK268 := n3_
   have BK281 := n4_
   have HK := n5_
   have HB := n6_
   have BK293 := n7_
   have GW293 := n8_
   have GE293 := n9_
   have NB266_293 := n10_
   have NB293_266 := n11_
   have NB267_293 := n12_
   have NB293_267 := n13_
   have NB268_293 := n14_
   have NB293_268 := n15_
   have NB281_293 := n16_
   have NB293_281 := n17_
   have NB0_293 := n18_
   have NB293_0 := n19_
   clear n0_ n1_ n2_ n3_ n4_ n5_ n6_ n7_ n8_ n9_ n10_ n11_ n12_ n13_ n14_ n15_ n16_ n17_ n18_ n19_
   clear hb hbox hg
   refine hK.out _ _ ⟨(blk_cell BK281.out 0).trans rfl, (blk_cell BK281.out 1).trans rfl, (blk_cell BK281.out 2).trans rfl, (blk_cell BK281.out 3).trans rfl⟩ (fun hHeld => ?_)
   clear hK K
   refine norm_ (a' := ?_) ?_ ?_
   rotate_left
   ·show Act.put _ (some 8) _ = _
    simp only [Act.put, List.setIfInBounds_toArray, List.set_cons_zero, List.set_cons_succ, i64_w, i32_w]
    rfl
   refine one_ (i := 7) (N := some 32) #[true, true, true, true, true, true, true, true, false, false, true, true, true, true, true, true, false, false, false, true, false] rfl rfl (one_of HT_.out (by kernel_rfl)) (by decide) (fun K hK => ?_)
   refine goes_ Try.func50 (by kernel_rfl) rfl #[.pointer (some ⟨g, 0, none⟩), .int .i64 2] (by rfl) rfl rfl (by (try simp only [List.map_toArray, List.map_cons, List.map_nil]); first | done | rfl | (simp only [List.length_drop, List.length_take]; rfl)) ?_
   with_reducible refine (spec_l01Below.calls g s0_0 t279 t280 2 t282 t283 t284 w0 _ ?side1 ?side2 A6.out).mono ?_
   (case side1 => repeat (first | (with_reducible first | exact HI0.out | apply IsS116.alloc | apply IsS116.drewN | apply IsS116.drew | apply IsS116.set_1 | apply IsS116.set_2 | refine IsS116.far ?_ NB0_266.out _ | refine IsS116.far ?_ NB0_267.out _ | refine IsS116.far ?_ NB0_268.out _ | refine IsS116.far ?_ NB0_281.out _ | refine IsS116.far ?_ NB0_293.out _) | exact HI0.out))
   (case side2 => repeat (first | (with_reducible first | exact HB.out | apply below_alloc | apply pw_below_drewN | apply below_drew1 | refine below_set ?_ (IsS116.ge HI0.out) | refine below_set ?_ GE266.out | refine below_set ?_ GE267.out | refine below_set ?_ GE268.out | refine below_set ?_ GE281.out | refine below_set ?_ GE293.out) | exact HB.out))
   rintro e w28 ⟨rfl, hi, hb, hk⟩
   refine ⟨_, rfl, ?_⟩
   have n0_ := Aside0.mk (KeepBut.blk hk (g' := gb266) (o := .cells #[.int .i64 0, .int .i64 0, .string (⟨#[]⟩ : ByteArray)] 25 (0, 0)) (by (with_reducible repeat (first | refine blk_drewN ?_ _ | refine blk_drew ?_ | refine blk_alloc ?_ _)); exact BK266.out) NB266_0.out (by simp))
   have n1_ := Aside0.mk (KeepBut.blk hk (g' := gb267) (o := .cells #[.int .i64 0, .int .i64 0, .int .i64 0, .int .i64 0] 38 (0, 0)) (by (with_reducible repeat (first | refine blk_drewN ?_ _ | refine blk_drew ?_ | refine blk_alloc ?_ _)); exact BK267.out) NB267_0.out (by simp))
   have n2_ := Aside0.mk (KeepBut.blk hk (g' := gb268) (o := .cells #[.bool false, .int .i64 0, .bool false, .bool false] 50 (0, 0)) (by (with_reducible repeat (first | refine blk_drewN ?_ _ | refine blk_drew ?_ | refine blk_alloc ?_ _)); exact BK268.out) NB268_0.out (by simp))
   have n3_ := Aside0.mk (KeepBut.blk hk (g' := gb281) (o := .cells #[.int .i64 (wrap64 (8 * t269)), .int .i64 (wrap64 (8 * t272)), .int .i64 (wrap64 (8 + (wrap64 (8 * t275)))), .int .i64 (wrap64 (8 + (wrap64 (8 * t278))))] 38 (0, 0)) (by (with_reducible repeat (first | refine blk_drewN ?_ _ | refine blk_drew ?_ | refine blk_alloc ?_ _)); exact BK281.out) NB281_0.out (by simp))
   have n4_ := Aside0.mk (KeepBut.blk hk (g' := gb293) (o := .cells #[.int .i64 0, .int .i64 0, .string (⟨#[]⟩ : ByteArray)] 25 (0, 0)) (by (with_reducible repeat (first | refine blk_drewN ?_ _ | refine blk_drew ?_ | refine blk_alloc ?_ _)); exact BK293.out) NB293_0.out (by simp))
   have n5_ := Aside0.mk (KeepBut.trans (by repeat (first | (with_reducible first | exact HK.out | apply KeepBut.set_ | apply keep_drewN | apply keep_drew | apply keep_alloc | refine keep_far ?_ GW266.out _ | refine keep_far ?_ GW267.out _ | refine keep_far ?_ GW268.out _ | refine keep_far ?_ GW281.out _ | refine keep_far ?_ GW293.out _) | exact HK.out)) hk (.inl rfl))
   have n6_ := Aside0.mk (hb)
   have n7_ := Aside0.mk (hi)
   clear BK266
   clear BK267
   clear BK268
   clear BK281
   clear BK293
   clear HK
   clear HB
   clear HI0
   have BK266 := n0_
   have BK267 := n1_
   have BK268 := n2_
   have BK281 := n3_
   have BK293 := n4_
   have HK := n5_
   have HB := n6_
   have HI0 := n7_
   clear n0_ n1_ n2_ n3_ n4_ n5_ n6_ n7_
   (try clear hb)
   (try clear hb2)
   (try clear hk)
   (try clear hi)
   refine hK.out _ _ ⟨(blk_cell BK281.out 0).trans rfl, (blk_cell BK281.out 1).trans rfl, (blk_cell BK281.out 2).trans rfl, (blk_cell BK281.out 3).trans rfl⟩ (fun hHeld => ?_)
   clear hK K
   refine norm_ (a' := ?_) ?_ ?_
   rotate_left
   ·show Act.put _ (some 32) _ = _
    simp only [Act.put, List.setIfInBounds_toArray, List.set_cons_zero, List.set_cons_succ, i64_w, i32_w]
    rfl
   refine pure_ (i := 8) (N := some 33) (v := ?_) (a' := ?_) #[true, true, true, true, true, true, true, true, true, false, true, true, true, true, true, true, false, false, false, true, false] rfl rfl (any_of HT_.out (by kernel_rfl)) (fun _ _ _ h => h) (Or.inl ⟨by rfl, ?_⟩) ?_ ?_
   rotate_left
   ·intro w'
    go_simp
    with_reducible rfl
   rotate_left
   ·simp only [Act.put, List.setIfInBounds_toArray, List.set_cons_zero, List.set_cons_succ, i64_w, i32_w]
    rfl
   refine pure_ (i := 9) (N := some 34) (v := ?_) (a' := ?_) #[true, true, true, true, true, true, true, true, true, true, true, true, true, true, true, true, false, false, false, true, false] rfl rfl (any_of HT_.out (by kernel_rfl)) (fun _ _ _ h => h) (Or.inl ⟨by rfl, ?_⟩) ?_ ?_
   rotate_left
   ·intro w'
    go_simp
    with_reducible rfl
   rotate_left
   ·simp only [Act.put, List.setIfInBounds_toArray, List.set_cons_zero, List.set_cons_succ, i64_w, i32_w]
    rfl
   refine one_ (i := 16) (N := some 41) #[true, true, true, true, true, true, true, true, true, true, true, true, true, true, true, true, true, false, false, true, false] rfl rfl (one_of HT_.out (by kernel_rfl)) (by decide) (fun K hK => ?_)
   refine goes_ Try.func50 (by kernel_rfl) rfl #[.pointer (some ⟨g, 0, none⟩), .int .i64 5] (by rfl) rfl rfl (by (try simp only [List.map_toArray, List.map_cons, List.map_nil]); first | done | rfl | (simp only [List.length_drop, List.length_take]; rfl)) ?_
   with_reducible refine (spec_l01Below.calls g s0_0 t283 t284 5 t285 t286 t287 w0 _ ?side1 ?side2 A7.out).mono ?_
   (case side1 => repeat (first | (with_reducible first | exact HI0.out | apply IsS116.alloc | apply IsS116.drewN | apply IsS116.drew | apply IsS116.set_1 | apply IsS116.set_2 | refine IsS116.far ?_ NB0_266.out _ | refine IsS116.far ?_ NB0_267.out _ | refine IsS116.far ?_ NB0_268.out _ | refine IsS116.far ?_ NB0_281.out _ | refine IsS116.far ?_ NB0_293.out _) | exact HI0.out))
   (case side2 => repeat (first | (with_reducible first | exact HB.out | apply below_alloc | apply pw_below_drewN | apply below_drew1 | refine below_set ?_ (IsS116.ge HI0.out) | refine below_set ?_ GE266.out | refine below_set ?_ GE267.out | refine below_set ?_ GE268.out | refine below_set ?_ GE281.out | refine below_set ?_ GE293.out) | exact HB.out))
   rintro e w29 ⟨rfl, hi, hb, hk⟩
   refine ⟨_, rfl, ?_⟩
   have n0_ := Aside0.mk (KeepBut.blk hk (g' := gb266) (o := .cells #[.int .i64 0, .int .i64 0, .string (⟨#[]⟩ : ByteArray)] 25 (0, 0)) (by (with_reducible repeat (first | refine blk_drewN ?_ _ | refine blk_drew ?_ | refine blk_alloc ?_ _)); exact BK266.out) NB266_0.out (by simp))
   have n1_ := Aside0.mk (KeepBut.blk hk (g' := gb267) (o := .cells #[.int .i64 0, .int .i64 0, .int .i64 0, .int .i64 0] 38 (0, 0)) (by (with_reducible repeat (first | refine blk_drewN ?_ _ | refine blk_drew ?_ | refine blk_alloc ?_ _)); exact BK267.out) NB267_0.out (by simp))
   have n2_ := Aside0.mk (KeepBut.blk hk (g' := gb268) (o := .cells #[.bool false, .int .i64 0, .bool false, .bool false] 50 (0, 0)) (by (with_reducible repeat (first | refine blk_drewN ?_ _ | refine blk_drew ?_ | refine blk_alloc ?_ _)); exact BK268.out) NB268_0.out (by simp))
   have n3_ := Aside0.mk (KeepBut.blk hk (g' := gb281) (o := .cells #[.int .i64 (wrap64 (8 * t269)), .int .i64 (wrap64 (8 * t272)), .int .i64 (wrap64 (8 + (wrap64 (8 * t275)))), .int .i64 (wrap64 (8 + (wrap64 (8 * t278))))] 38 (0, 0)) (by (with_reducible repeat (first | refine blk_drewN ?_ _ | refine blk_drew ?_ | refine blk_alloc ?_ _)); exact BK281.out) NB281_0.out (by simp))
   have n4_ := Aside0.mk (KeepBut.blk hk (g' := gb293) (o := .cells #[.int .i64 0, .int .i64 0, .string (⟨#[]⟩ : ByteArray)] 25 (0, 0)) (by (with_reducible repeat (first | refine blk_drewN ?_ _ | refine blk_drew ?_ | refine blk_alloc ?_ _)); exact BK293.out) NB293_0.out (by simp))
   have n5_ := Aside0.mk (KeepBut.trans (by repeat (first | (with_reducible first | exact HK.out | apply KeepBut.set_ | apply keep_drewN | apply keep_drew | apply keep_alloc | refine keep_far ?_ GW266.out _ | refine keep_far ?_ GW267.out _ | refine keep_far ?_ GW268.out _ | refine keep_far ?_ GW281.out _ | refine keep_far ?_ GW293.out _) | exact HK.out)) hk (.inl rfl))
   have n6_ := Aside0.mk (hb)
   have n7_ := Aside0.mk (hi)
   clear BK266
   clear BK267
   clear BK268
   clear BK281
   clear BK293
   clear HK
   clear HB
   clear HI0
   have BK266 := n0_
   have BK267 := n1_
   have BK268 := n2_
   have BK281 := n3_
   have BK293 := n4_
   have HK := n5_
   have HB := n6_
   have HI0 := n7_
   clear n0_ n1_ n2_ n3_ n4_ n5_ n6_ n7_
   (try clear hb)
   (try clear hb2)
   (try clear hk)
   (try clear hi)
   refine hK.out _ _ ⟨(blk_cell BK281.out 0).trans rfl, (blk_cell BK281.out 1).trans rfl, (blk_cell BK281.out 2).trans rfl, (blk_cell BK281.out 3).trans rfl⟩ (fun hHeld => ?_)
   clear hK K
   refine norm_ (a' := ?_) ?_ ?_
   rotate_left
   ·show Act.put _ (some 41) _ = _
    simp only [Act.put, List.setIfInBounds_toArray, List.set_cons_zero, List.set_cons_succ, i64_w, i32_w]
    rfl
   refine pure_ (i := 17) (N := some 42) (v := ?_) (a' := ?_) #[true, true, true, true, true, true, true, true, true, true, true, true, true, true, true, true, true, true, false, true, false] rfl rfl (any_of HT_.out (by kernel_rfl)) (fun _ _ _ h => h) (Or.inl ⟨by rfl, ?_⟩) ?_ ?_
   rotate_left
   ·intro w'
    go_simp
    with_reducible rfl
   rotate_left
   ·simp only [Act.put, List.setIfInBounds_toArray, List.set_cons_zero, List.set_cons_succ, i64_w, i32_w]
    rfl
   refine one_ (i := 18) (N := some 43) #[true, true, true, true, true, true, true, true, true, true, true, true, true, true, true, true, true, true, true, true, false] rfl rfl (one_of HT_.out (by kernel_rfl)) (by decide) (fun K hK => ?_)
   refine goes_ Try.func85 (by kernel_rfl) rfl #[.pointer (some ⟨g, 0, none⟩), .int .i64 (wrap64 ((wrap64 ((wrap64 (8 * t269)) + (wrap64 (8 + (wrap64 (8 * t275)))))) + (wrap64 (8 * t282)))), .int .i64 (wrap64 ((wrap64 ((wrap64 (8 * t272)) + (wrap64 (8 + (wrap64 (8 * t278)))))) + t285))] (by rfl) rfl rfl (by (try simp only [List.map_toArray, List.map_cons, List.map_nil]); first | done | rfl | (simp only [List.length_drop, List.length_take]; rfl)) ?_
   with_reducible refine (spec_l12Sized.calls k g s0_0 t286 t287 (wrap64 ((wrap64 ((wrap64 (8 * t269)) + (wrap64 (8 + (wrap64 (8 * t275)))))) + (wrap64 (8 * t282)))) (wrap64 ((wrap64 ((wrap64 (8 * t272)) + (wrap64 (8 + (wrap64 (8 * t278)))))) + t285)) t288 t289 t290 t291 t292 w0 _ ?side1 ?side2 A8.out).mono ?_
   (case side1 => repeat (first | (with_reducible first | exact HI0.out | apply IsS116.alloc | apply IsS116.drewN | apply IsS116.drew | apply IsS116.set_1 | apply IsS116.set_2 | refine IsS116.far ?_ NB0_266.out _ | refine IsS116.far ?_ NB0_267.out _ | refine IsS116.far ?_ NB0_268.out _ | refine IsS116.far ?_ NB0_281.out _ | refine IsS116.far ?_ NB0_293.out _) | exact HI0.out))
   (case side2 => repeat (first | (with_reducible first | exact HB.out | apply below_alloc | apply pw_below_drewN | apply below_drew1 | refine below_set ?_ (IsS116.ge HI0.out) | refine below_set ?_ GE266.out | refine below_set ?_ GE267.out | refine below_set ?_ GE268.out | refine below_set ?_ GE281.out | refine below_set ?_ GE293.out) | exact HB.out))
   rintro e w30 ⟨rfl, hi, hb, hk⟩
   refine ⟨_, rfl, ?_⟩
   have n0_ := Aside0.mk (KeepBut.blk hk (g' := gb266) (o := .cells #[.int .i64 0, .int .i64 0, .string (⟨#[]⟩ : ByteArray)] 25 (0, 0)) (by (with_reducible repeat (first | refine blk_drewN ?_ _ | refine blk_drew ?_ | refine blk_alloc ?_ _)); exact BK266.out) NB266_0.out (by simp))
   have n1_ := Aside0.mk (KeepBut.blk hk (g' := gb267) (o := .cells #[.int .i64 0, .int .i64 0, .int .i64 0, .int .i64 0] 38 (0, 0)) (by (with_reducible repeat (first | refine blk_drewN ?_ _ | refine blk_drew ?_ | refine blk_alloc ?_ _)); exact BK267.out) NB267_0.out (by simp))
   have n2_ := Aside0.mk (KeepBut.blk hk (g' := gb268) (o := .cells #[.bool false, .int .i64 0, .bool false, .bool false] 50 (0, 0)) (by (with_reducible repeat (first | refine blk_drewN ?_ _ | refine blk_drew ?_ | refine blk_alloc ?_ _)); exact BK268.out) NB268_0.out (by simp))
   have n3_ := Aside0.mk (KeepBut.blk hk (g' := gb281) (o := .cells #[.int .i64 (wrap64 (8 * t269)), .int .i64 (wrap64 (8 * t272)), .int .i64 (wrap64 (8 + (wrap64 (8 * t275)))), .int .i64 (wrap64 (8 + (wrap64 (8 * t278))))] 38 (0, 0)) (by (with_reducible repeat (first | refine blk_drewN ?_ _ | refine blk_drew ?_ | refine blk_alloc ?_ _)); exact BK281.out) NB281_0.out (by simp))
   have n4_ := Aside0.mk (KeepBut.blk hk (g' := gb293) (o := .cells #[.int .i64 0, .int .i64 0, .string (⟨#[]⟩ : ByteArray)] 25 (0, 0)) (by (with_reducible repeat (first | refine blk_drewN ?_ _ | refine blk_drew ?_ | refine blk_alloc ?_ _)); exact BK293.out) NB293_0.out (by simp))
   have n5_ := Aside0.mk (KeepBut.trans (by repeat (first | (with_reducible first | exact HK.out | apply KeepBut.set_ | apply keep_drewN | apply keep_drew | apply keep_alloc | refine keep_far ?_ GW266.out _ | refine keep_far ?_ GW267.out _ | refine keep_far ?_ GW268.out _ | refine keep_far ?_ GW281.out _ | refine keep_far ?_ GW293.out _) | exact HK.out)) hk (.inl rfl))
   have n6_ := Aside0.mk (hb)
   have n7_ := Aside0.mk (hi)
   clear BK266
   clear BK267
   clear BK268
   clear BK281
   clear BK293
   clear HK
   clear HB
   clear HI0
   have BK266 := n0_
   have BK267 := n1_
   have BK268 := n2_
   have BK281 := n3_
   have BK293 := n4_
   have HK := n5_
   have HB := n6_
   have HI0 := n7_
   clear n0_ n1_ n2_ n3_ n4_ n5_ n6_ n7_
   (try clear hb)
   (try clear hb2)
   (try clear hk)
   (try clear hi)
   refine hK.out _ _ ⟨(blk_cell BK281.out 0).trans rfl, (blk_cell BK281.out 1).trans rfl, (blk_cell BK281.out 2).trans rfl, (blk_cell BK281.out 3).trans rfl⟩ (fun hHeld => ?_)
   clear hK K
   refine norm_ (a' := ?_) ?_ ?_
   rotate_left
   ·show Act.put _ (some 43) _ = _
    simp only [Act.put, List.setIfInBounds_toArray, List.set_cons_zero, List.set_cons_succ, i64_w, i32_w]
    rfl
   exact norm_ (by simp only [putAll, Act.put, List.setIfInBounds_toArray, List.set_cons_zero, List.set_cons_succ]) (hCont (gb293) _ ⟨hHeld, (by (with_reducible repeat (first | refine blk_drewN ?_ _ | refine blk_drew ?_ | refine blk_alloc ?_ _)); exact BK266.out), (by (with_reducible repeat (first | refine blk_drewN ?_ _ | refine blk_drew ?_ | refine blk_alloc ?_ _)); exact BK267.out), (by (with_reducible repeat (first | refine blk_drewN ?_ _ | refine blk_drew ?_ | refine blk_alloc ?_ _)); exact BK268.out), (by (with_reducible repeat (first | refine blk_drewN ?_ _ | refine blk_drew ?_ | refine blk_alloc ?_ _)); exact BK281.out), (by (with_reducible repeat (first | refine blk_drewN ?_ _ | refine blk_drew ?_ | refine blk_alloc ?_ _)); exact BK293.out), GW293.out, GE293.out, NB0_293.out, NB293_0.out, NB266_293.out, NB293_266.out, NB267_293.out, NB293_267.out, NB268_293.out, NB293_268.out, NB281_293.out, NB293_281.out, (by repeat (first | (with_reducible first | exact HI0.out | apply IsS116.alloc | apply IsS116.drewN | apply IsS116.drew | apply IsS116.set_1 | apply IsS116.set_2 | refine IsS116.far ?_ NB0_266.out _ | refine IsS116.far ?_ NB0_267.out _ | refine IsS116.far ?_ NB0_268.out _ | refine IsS116.far ?_ NB0_281.out _ | refine IsS116.far ?_ NB0_293.out _) | exact HI0.out)), (by repeat (first | (with_reducible first | exact HK.out | apply KeepBut.set_ | apply keep_drewN | apply keep_drew | apply keep_alloc | refine keep_far ?_ GW266.out _ | refine keep_far ?_ GW267.out _ | refine keep_far ?_ GW268.out _ | refine keep_far ?_ GW281.out _ | refine keep_far ?_ GW293.out _) | exact HK.out)), (by repeat (first | (with_reducible first | exact HB.out | apply below_alloc | apply pw_below_drewN | apply below_drew1 | refine below_set ?_ (IsS116.ge HI0.out) | refine below_set ?_ GE266.out | refine below_set ?_ GE267.out | refine below_set ?_ GE268.out | refine below_set ?_ GE281.out | refine below_set ?_ GE293.out) | exact HB.out))⟩)
 rintro gb293 w31 ⟨hS_, h0_, h1_, h2_, h3_, h4_, h5_, h6_, h7_, h8_, h9_, h10_, h11_, h12_, h13_, h14_, h15_, h16_, h17_, h18_, h19_⟩
 have n0_ : Aside0 (w31.heap[gb266]? = some (.cells #[.int .i64 0, .int .i64 0, .string (⟨#[]⟩ : ByteArray)] 25 (0, 0))) := ⟨h0_⟩
 have n1_ : Aside0 (w31.heap[gb267]? = some (.cells #[.int .i64 0, .int .i64 0, .int .i64 0, .int .i64 0] 38 (0, 0))) := ⟨h1_⟩
 have n2_ : Aside0 (w31.heap[gb268]? = some (.cells #[.bool false, .int .i64 0, .bool false, .bool false] 50 (0, 0))) := ⟨h2_⟩
 have n3_ : Aside0 (w31.heap[gb281]? = some (.cells #[.int .i64 (wrap64 (8 * t269)), .int .i64 (wrap64 (8 * t272)), .int .i64 (wrap64 (8 + (wrap64 (8 * t275)))), .int .i64 (wrap64 (8 + (wrap64 (8 * t278))))] 38 (0, 0))) := ⟨h3_⟩
 have n4_ : Aside0 (w31.heap[gb293]? = some (.cells #[.int .i64 0, .int .i64 0, .string (⟨#[]⟩ : ByteArray)] 25 (0, 0))) := ⟨h4_⟩
 have n5_ : Aside0 (w.heap.size ≤ gb293) := ⟨h5_⟩
 have n6_ : Aside0 (w0.heap.size ≤ gb293) := ⟨h6_⟩
 have n7_ : Aside0 (g ≠ gb293) := ⟨h7_⟩
 have n8_ : Aside0 (gb293 ≠ g) := ⟨h8_⟩
 have n9_ : Aside0 (gb266 ≠ gb293) := ⟨h9_⟩
 have n10_ : Aside0 (gb293 ≠ gb266) := ⟨h10_⟩
 have n11_ : Aside0 (gb267 ≠ gb293) := ⟨h11_⟩
 have n12_ : Aside0 (gb293 ≠ gb267) := ⟨h12_⟩
 have n13_ : Aside0 (gb268 ≠ gb293) := ⟨h13_⟩
 have n14_ : Aside0 (gb293 ≠ gb268) := ⟨h14_⟩
 have n15_ : Aside0 (gb281 ≠ gb293) := ⟨h15_⟩
 have n16_ : Aside0 (gb293 ≠ gb281) := ⟨h16_⟩
 have n17_ : Aside0 (IsS116 w0 w31 g s0_0 t291 t292) := ⟨h17_⟩
 have n18_ : Aside0 (KeepBut w w31 g none) := ⟨h18_⟩
 have n19_ : Aside0 (Below w0.heap.size w0 w31) := ⟨h19_⟩
 clear BK266
 clear BK267
 clear BK268
 clear BK281
 clear HI0
 clear HK
 clear HB
 clear h0_ h1_ h2_ h3_ h4_ h5_ h6_ h7_ h8_ h9_ h10_ h11_ h12_ h13_ h14_ h15_ h16_ h17_ h18_ h19_
 have BK266 := n0_
 have BK267 := n1_
 have BK268 := n2_
 have BK281 := n3_
 have BK293 := n4_
 have GW293 := n5_
 have GE293 := n6_
 have NB0_293 := n7_
 have NB293_0 := n8_
 have NB266_293 := n9_
 have NB293_266 := n10_
 have NB267_293 := n11_
 have NB293_267 := n12_
 have NB268_293 := n13_
 have NB293_268 := n14_
 have NB281_293 := n15_
 have NB293_281 := n16_
 have HI0 := n17_
 have HK := n18_
 have HB := n19_
 clear n0_ n1_ n2_ n3_ n4_ n5_ n6_ n7_ n8_ n9_ n10_ n11_ n12_ n13_ n14_ n15_ n16_ n17_ n18_ n19_
 have hHeld : w31.cell? ⟨gb281, 0, none⟩ = some (.int .i64 (wrap64 (8 * t269))) ∧ w31.cell? ⟨gb281, 1, none⟩ = some (.int .i64 (wrap64 (8 * t272))) ∧ w31.cell? ⟨gb281, 2, none⟩ = some (.int .i64 (wrap64 (8 + (wrap64 (8 * t275))))) ∧ w31.cell? ⟨gb281, 3, none⟩ = some (.int .i64 (wrap64 (8 + (wrap64 (8 * t278))))) := hS_
 refine norm_ (a' := ?_) ?_ ?_
 rotate_left
 ·simp only [putAll, Act.put, List.setIfInBounds_toArray, List.set_cons_zero, List.set_cons_succ]
  rfl
 refine one_ (i := 20) (N := none) #[true, true, true, true, true, true, true, true, true, true, true, true, true, true, true, true, true, true, true, true, true] rfl rfl (one_of HT_.out (by kernel_rfl)) (by decide) (fun K hK => ?_)
 have hs32 : w31.cell? ⟨gb293, 0, none⟩ = some (.int .i64 0) := (blk_cell BK293.out 0).trans rfl
 have hfs32 := blk_frozen BK293.out 0
 have hns32_0 := NB266_293.out
 have hns32_1 := NB267_293.out
 have hns32_2 := NB268_293.out
 have hns32_3 := NB281_293.out
 have hms32_0 := NB293_266.out
 have hms32_1 := NB293_267.out
 have hms32_2 := NB293_268.out
 have hms32_3 := NB293_281.out
 have hs33 : w31.cell? ⟨gb293, 1, none⟩ = some (.int .i64 0) := (blk_cell BK293.out 1).trans rfl
 have hfs33 := blk_frozen BK293.out 1
 have hns33_0 := NB266_293.out
 have hns33_1 := NB267_293.out
 have hns33_2 := NB268_293.out
 have hns33_3 := NB281_293.out
 have hms33_0 := NB293_266.out
 have hms33_1 := NB293_267.out
 have hms33_2 := NB293_268.out
 have hms33_3 := NB293_281.out
 have hs34 : w31.cell? ⟨gb293, 2, none⟩ = some (.string (⟨#[]⟩ : ByteArray)) := (blk_cell BK293.out 2).trans rfl
 have hfs34 := blk_frozen BK293.out 2
 have hns34_0 := NB266_293.out
 have hns34_1 := NB267_293.out
 have hns34_2 := NB268_293.out
 have hns34_3 := NB281_293.out
 have hms34_0 := NB293_266.out
 have hms34_1 := NB293_267.out
 have hms34_2 := NB293_268.out
 have hms34_3 := NB293_281.out
 refine skip_ (w1 := ?_) ?hw_ ?hN_ ?hr_ ?_
 case hw_ => rfl
 case hN_ => rfl
 case hr_ =>
  go_simp
  rfl
 refine hK.out _ _ ⟨((cell_far (p := ⟨gb293, _, none⟩) NB281_293.out _).trans (((cell_far (p := ⟨gb293, _, none⟩) NB281_293.out _).trans (((cell_far (p := ⟨gb293, _, none⟩) NB281_293.out _).trans (hHeld.1)))))), ((cell_far (p := ⟨gb293, _, none⟩) NB281_293.out _).trans (((cell_far (p := ⟨gb293, _, none⟩) NB281_293.out _).trans (((cell_far (p := ⟨gb293, _, none⟩) NB281_293.out _).trans (hHeld.2.1)))))), ((cell_far (p := ⟨gb293, _, none⟩) NB281_293.out _).trans (((cell_far (p := ⟨gb293, _, none⟩) NB281_293.out _).trans (((cell_far (p := ⟨gb293, _, none⟩) NB281_293.out _).trans (hHeld.2.2.1)))))), ((cell_far (p := ⟨gb293, _, none⟩) NB281_293.out _).trans (((cell_far (p := ⟨gb293, _, none⟩) NB281_293.out _).trans (((cell_far (p := ⟨gb293, _, none⟩) NB281_293.out _).trans (hHeld.2.2.2))))))⟩ (fun hHeld => ?_)
 clear hK K
 refine done_ (done_of HT_.out (by kernel_rfl)) ?_
 try go_wp2_with (first | ((with_reducible refine gate_callee (f := 123) rfl ?_); refine goesL_ (some 45) rfl rfl Try.func123 (by kernel_rfl) rfl #[.pointer (some ⟨g, 0, none⟩)] rfl (by (try simp only [List.map_toArray, List.map_cons, List.map_nil]); first | done | rfl | (simp only [List.length_drop, List.length_take]; rfl)) ?_; (with_reducible refine (spec_l14Cond.calls g s0_0 t291 t292 t294 t295 t296 t297 t298 t299 w0 _ ?side1 ?side2 A9.out).mono ?_); (case side1 => repeat (first | (with_reducible first | exact HI0.out | apply IsS116.alloc | apply IsS116.drewN | apply IsS116.drew | apply IsS116.set_1 | apply IsS116.set_2 | refine IsS116.far ?_ NB0_266.out _ | refine IsS116.far ?_ NB0_267.out _ | refine IsS116.far ?_ NB0_268.out _ | refine IsS116.far ?_ NB0_281.out _ | refine IsS116.far ?_ NB0_293.out _) | exact HI0.out)); (case side2 => repeat (first | (with_reducible first | exact HB.out | apply below_alloc | apply pw_below_drewN | apply below_drew1 | refine below_set ?_ (IsS116.ge HI0.out) | refine below_set ?_ GE266.out | refine below_set ?_ GE267.out | refine below_set ?_ GE268.out | refine below_set ?_ GE281.out | refine below_set ?_ GE293.out) | exact HB.out)); rintro e w35 ⟨rfl, hi, hb, hk⟩; refine ⟨_, rfl, ?_⟩; have n0_ := Aside0.mk (KeepBut.blk hk (g' := gb266) (o := .cells #[.int .i64 0, .int .i64 0, .string (⟨#[]⟩ : ByteArray)] 25 (0, 0)) (by (with_reducible repeat (first | refine blk_drewN ?_ _ | refine blk_drew ?_ | refine blk_alloc ?_ _)); refine blk_far ?_ NB266_293.out _; (with_reducible repeat (first | refine blk_drewN ?_ _ | refine blk_drew ?_ | refine blk_alloc ?_ _)); refine blk_far ?_ NB266_293.out _; (with_reducible repeat (first | refine blk_drewN ?_ _ | refine blk_drew ?_ | refine blk_alloc ?_ _)); refine blk_far ?_ NB266_293.out _; (with_reducible repeat (first | refine blk_drewN ?_ _ | refine blk_drew ?_ | refine blk_alloc ?_ _)); exact BK266.out) NB266_0.out (by simp)); have n1_ := Aside0.mk (KeepBut.blk hk (g' := gb267) (o := .cells #[.int .i64 0, .int .i64 0, .int .i64 0, .int .i64 0] 38 (0, 0)) (by (with_reducible repeat (first | refine blk_drewN ?_ _ | refine blk_drew ?_ | refine blk_alloc ?_ _)); refine blk_far ?_ NB267_293.out _; (with_reducible repeat (first | refine blk_drewN ?_ _ | refine blk_drew ?_ | refine blk_alloc ?_ _)); refine blk_far ?_ NB267_293.out _; (with_reducible repeat (first | refine blk_drewN ?_ _ | refine blk_drew ?_ | refine blk_alloc ?_ _)); refine blk_far ?_ NB267_293.out _; (with_reducible repeat (first | refine blk_drewN ?_ _ | refine blk_drew ?_ | refine blk_alloc ?_ _)); exact BK267.out) NB267_0.out (by simp)); have n2_ := Aside0.mk (KeepBut.blk hk (g' := gb268) (o := .cells #[.bool false, .int .i64 0, .bool false, .bool false] 50 (0, 0)) (by (with_reducible repeat (first | refine blk_drewN ?_ _ | refine blk_drew ?_ | refine blk_alloc ?_ _)); refine blk_far ?_ NB268_293.out _; (with_reducible repeat (first | refine blk_drewN ?_ _ | refine blk_drew ?_ | refine blk_alloc ?_ _)); refine blk_far ?_ NB268_293.out _; (with_reducible repeat (first | refine blk_drewN ?_ _ | refine blk_drew ?_ | refine blk_alloc ?_ _)); refine blk_far ?_ NB268_293.out _; (with_reducible repeat (first | refine blk_drewN ?_ _ | refine blk_drew ?_ | refine blk_alloc ?_ _)); exact BK268.out) NB268_0.out (by simp)); have n3_ := Aside0.mk (KeepBut.blk hk (g' := gb281) (o := .cells #[.int .i64 (wrap64 (8 * t269)), .int .i64 (wrap64 (8 * t272)), .int .i64 (wrap64 (8 + (wrap64 (8 * t275)))), .int .i64 (wrap64 (8 + (wrap64 (8 * t278))))] 38 (0, 0)) (by (with_reducible repeat (first | refine blk_drewN ?_ _ | refine blk_drew ?_ | refine blk_alloc ?_ _)); refine blk_far ?_ NB281_293.out _; (with_reducible repeat (first | refine blk_drewN ?_ _ | refine blk_drew ?_ | refine blk_alloc ?_ _)); refine blk_far ?_ NB281_293.out _; (with_reducible repeat (first | refine blk_drewN ?_ _ | refine blk_drew ?_ | refine blk_alloc ?_ _)); refine blk_far ?_ NB281_293.out _; (with_reducible repeat (first | refine blk_drewN ?_ _ | refine blk_drew ?_ | refine blk_alloc ?_ _)); exact BK281.out) NB281_0.out (by simp)); have n4_ := Aside0.mk (KeepBut.blk hk (g' := gb293) (o := .cells #[.int .i64 t288, .int .i64 t289, .string t290] 25 (0, 0)) (by (with_reducible repeat (first | refine blk_drewN ?_ _ | refine blk_drew ?_ | refine blk_alloc ?_ _)); refine blk_put (cs := #[.int .i64 t288, .int .i64 t289, .string (⟨#[]⟩ : ByteArray)]) ?_ 2 _ rfl; (with_reducible repeat (first | refine blk_drewN ?_ _ | refine blk_drew ?_ | refine blk_alloc ?_ _)); refine blk_put (cs := #[.int .i64 t288, .int .i64 0, .string (⟨#[]⟩ : ByteArray)]) ?_ 1 _ rfl; (with_reducible repeat (first | refine blk_drewN ?_ _ | refine blk_drew ?_ | refine blk_alloc ?_ _)); refine blk_put (cs := #[.int .i64 0, .int .i64 0, .string (⟨#[]⟩ : ByteArray)]) ?_ 0 _ rfl; (with_reducible repeat (first | refine blk_drewN ?_ _ | refine blk_drew ?_ | refine blk_alloc ?_ _)); exact BK293.out) NB293_0.out (by simp)); have n5_ := Aside0.mk (KeepBut.trans (by repeat (first | (with_reducible first | exact HK.out | apply KeepBut.set_ | apply keep_drewN | apply keep_drew | apply keep_alloc | refine keep_far ?_ GW266.out _ | refine keep_far ?_ GW267.out _ | refine keep_far ?_ GW268.out _ | refine keep_far ?_ GW281.out _ | refine keep_far ?_ GW293.out _) | exact HK.out)) hk (.inl rfl)); have n6_ := Aside0.mk (hb); have n7_ := Aside0.mk (hi); clear BK266; clear BK267; clear BK268; clear BK281; clear BK293; clear HK; clear HB; clear HI0; have BK266 := n0_; have BK267 := n1_; have BK268 := n2_; have BK281 := n3_; have BK293 := n4_; have HK := n5_; have HB := n6_; have HI0 := n7_; clear n0_ n1_ n2_ n3_ n4_ n5_ n6_ n7_; (try clear hb); (try clear hb2); (try clear hk); (try clear hi)) | ((with_reducible refine gate_dst (N := 9) rfl ?_); refine box_event ?hg (N := 9) ?hd (cs := #[.bool false, .int .i64 0, .bool false, .bool false]) (t := 50) ?hr ?_; (case hd => rfl); (case hg => rfl); (case hr => first | (go_simp; done) | (go_simp; rfl)); intro gb300 hg w36 hbox hb; have n0_ := Aside0.mk (IsS116.below (by repeat (first | (with_reducible first | exact HI0.out | apply IsS116.alloc | apply IsS116.drewN | apply IsS116.drew | apply IsS116.set_1 | apply IsS116.set_2 | refine IsS116.far ?_ NB0_266.out _ | refine IsS116.far ?_ NB0_267.out _ | refine IsS116.far ?_ NB0_268.out _ | refine IsS116.far ?_ NB0_281.out _ | refine IsS116.far ?_ NB0_293.out _) | exact HI0.out)) hb); have n1_ := Aside0.mk (blk_below (g := gb266) (o := .cells #[.int .i64 0, .int .i64 0, .string (⟨#[]⟩ : ByteArray)] 25 (0, 0)) (by (with_reducible repeat (first | refine blk_drewN ?_ _ | refine blk_drew ?_ | refine blk_alloc ?_ _)); exact BK266.out) hb); have n2_ := Aside0.mk (blk_below (g := gb267) (o := .cells #[.int .i64 0, .int .i64 0, .int .i64 0, .int .i64 0] 38 (0, 0)) (by (with_reducible repeat (first | refine blk_drewN ?_ _ | refine blk_drew ?_ | refine blk_alloc ?_ _)); exact BK267.out) hb); have n3_ := Aside0.mk (blk_below (g := gb268) (o := .cells #[.bool false, .int .i64 0, .bool false, .bool false] 50 (0, 0)) (by (with_reducible repeat (first | refine blk_drewN ?_ _ | refine blk_drew ?_ | refine blk_alloc ?_ _)); exact BK268.out) hb); have n4_ := Aside0.mk (blk_below (g := gb281) (o := .cells #[.int .i64 (wrap64 (8 * t269)), .int .i64 (wrap64 (8 * t272)), .int .i64 (wrap64 (8 + (wrap64 (8 * t275)))), .int .i64 (wrap64 (8 + (wrap64 (8 * t278))))] 38 (0, 0)) (by (with_reducible repeat (first | refine blk_drewN ?_ _ | refine blk_drew ?_ | refine blk_alloc ?_ _)); exact BK281.out) hb); have n5_ := Aside0.mk (blk_below (g := gb293) (o := .cells #[.int .i64 t288, .int .i64 t289, .string t290] 25 (0, 0)) (by (with_reducible repeat (first | refine blk_drewN ?_ _ | refine blk_drew ?_ | refine blk_alloc ?_ _)); exact BK293.out) hb); have n6_ := Aside0.mk (KeepBut.trans (by repeat (first | (with_reducible first | exact HK.out | apply KeepBut.set_ | apply keep_drewN | apply keep_drew | apply keep_alloc | refine keep_far ?_ GW266.out _ | refine keep_far ?_ GW267.out _ | refine keep_far ?_ GW268.out _ | refine keep_far ?_ GW281.out _ | refine keep_far ?_ GW293.out _) | exact HK.out)) (KeepBut.of_below hb g none) (.inl rfl)); have n7_ := Aside0.mk (below_step (by repeat (first | (with_reducible first | exact HB.out | apply below_alloc | apply pw_below_drewN | apply below_drew1 | refine below_set ?_ (IsS116.ge HI0.out) | refine below_set ?_ GE266.out | refine below_set ?_ GE267.out | refine below_set ?_ GE268.out | refine below_set ?_ GE281.out | refine below_set ?_ GE293.out) | exact HB.out)) hb); have n8_ := Aside0.mk (hbox); have n9_ := Aside0.mk ((by rw [hg]; exact (keep_size (w := w) (g := g) (row := none) (by repeat (first | (with_reducible first | exact HK.out | apply KeepBut.set_ | apply keep_drewN | apply keep_drew | apply keep_alloc | refine keep_far ?_ GW266.out _ | refine keep_far ?_ GW267.out _ | refine keep_far ?_ GW268.out _ | refine keep_far ?_ GW281.out _ | refine keep_far ?_ GW293.out _) | exact HK.out))) : w.heap.size ≤ gb300)); have n10_ := Aside0.mk ((Nat.le_trans HW0.out (by rw [hg]; exact (keep_size (w := w) (g := g) (row := none) (by repeat (first | (with_reducible first | exact HK.out | apply KeepBut.set_ | apply keep_drewN | apply keep_drew | apply keep_alloc | refine keep_far ?_ GW266.out _ | refine keep_far ?_ GW267.out _ | refine keep_far ?_ GW268.out _ | refine keep_far ?_ GW281.out _ | refine keep_far ?_ GW293.out _) | exact HK.out))) : w.heap.size ≤ gb300) : w0.heap.size ≤ gb300)); have n11_ := Aside0.mk ((by rw [hg]; exact Nat.ne_of_lt (blk_lt (g := gb266) (o := .cells #[.int .i64 0, .int .i64 0, .string (⟨#[]⟩ : ByteArray)] 25 (0, 0)) (by (with_reducible repeat (first | refine blk_drewN ?_ _ | refine blk_drew ?_ | refine blk_alloc ?_ _)); exact BK266.out)) : gb266 ≠ gb300)); have n12_ := Aside0.mk ((by rw [hg]; exact Nat.ne_of_gt (blk_lt (g := gb266) (o := .cells #[.int .i64 0, .int .i64 0, .string (⟨#[]⟩ : ByteArray)] 25 (0, 0)) (by (with_reducible repeat (first | refine blk_drewN ?_ _ | refine blk_drew ?_ | refine blk_alloc ?_ _)); exact BK266.out)) : gb300 ≠ gb266)); have n13_ := Aside0.mk ((by rw [hg]; exact Nat.ne_of_lt (blk_lt (g := gb267) (o := .cells #[.int .i64 0, .int .i64 0, .int .i64 0, .int .i64 0] 38 (0, 0)) (by (with_reducible repeat (first | refine blk_drewN ?_ _ | refine blk_drew ?_ | refine blk_alloc ?_ _)); exact BK267.out)) : gb267 ≠ gb300)); have n14_ := Aside0.mk ((by rw [hg]; exact Nat.ne_of_gt (blk_lt (g := gb267) (o := .cells #[.int .i64 0, .int .i64 0, .int .i64 0, .int .i64 0] 38 (0, 0)) (by (with_reducible repeat (first | refine blk_drewN ?_ _ | refine blk_drew ?_ | refine blk_alloc ?_ _)); exact BK267.out)) : gb300 ≠ gb267)); have n15_ := Aside0.mk ((by rw [hg]; exact Nat.ne_of_lt (blk_lt (g := gb268) (o := .cells #[.bool false, .int .i64 0, .bool false, .bool false] 50 (0, 0)) (by (with_reducible repeat (first | refine blk_drewN ?_ _ | refine blk_drew ?_ | refine blk_alloc ?_ _)); exact BK268.out)) : gb268 ≠ gb300)); have n16_ := Aside0.mk ((by rw [hg]; exact Nat.ne_of_gt (blk_lt (g := gb268) (o := .cells #[.bool false, .int .i64 0, .bool false, .bool false] 50 (0, 0)) (by (with_reducible repeat (first | refine blk_drewN ?_ _ | refine blk_drew ?_ | refine blk_alloc ?_ _)); exact BK268.out)) : gb300 ≠ gb268)); have n17_ := Aside0.mk ((by rw [hg]; exact Nat.ne_of_lt (blk_lt (g := gb281) (o := .cells #[.int .i64 (wrap64 (8 * t269)), .int .i64 (wrap64 (8 * t272)), .int .i64 (wrap64 (8 + (wrap64 (8 * t275)))), .int .i64 (wrap64 (8 + (wrap64 (8 * t278))))] 38 (0, 0)) (by (with_reducible repeat (first | refine blk_drewN ?_ _ | refine blk_drew ?_ | refine blk_alloc ?_ _)); exact BK281.out)) : gb281 ≠ gb300)); have n18_ := Aside0.mk ((by rw [hg]; exact Nat.ne_of_gt (blk_lt (g := gb281) (o := .cells #[.int .i64 (wrap64 (8 * t269)), .int .i64 (wrap64 (8 * t272)), .int .i64 (wrap64 (8 + (wrap64 (8 * t275)))), .int .i64 (wrap64 (8 + (wrap64 (8 * t278))))] 38 (0, 0)) (by (with_reducible repeat (first | refine blk_drewN ?_ _ | refine blk_drew ?_ | refine blk_alloc ?_ _)); exact BK281.out)) : gb300 ≠ gb281)); have n19_ := Aside0.mk ((by rw [hg]; exact Nat.ne_of_lt (blk_lt (g := gb293) (o := .cells #[.int .i64 t288, .int .i64 t289, .string t290] 25 (0, 0)) (by (with_reducible repeat (first | refine blk_drewN ?_ _ | refine blk_drew ?_ | refine blk_alloc ?_ _)); exact BK293.out)) : gb293 ≠ gb300)); have n20_ := Aside0.mk ((by rw [hg]; exact Nat.ne_of_gt (blk_lt (g := gb293) (o := .cells #[.int .i64 t288, .int .i64 t289, .string t290] 25 (0, 0)) (by (with_reducible repeat (first | refine blk_drewN ?_ _ | refine blk_drew ?_ | refine blk_alloc ?_ _)); exact BK293.out)) : gb300 ≠ gb293)); have n21_ := Aside0.mk ((by rw [hg]; exact Nat.ne_of_lt (IsS116.lt (show IsS116 w0 _ g s0_0 t298 t299 from by repeat (first | (with_reducible first | exact HI0.out | apply IsS116.alloc | apply IsS116.drewN | apply IsS116.drew | apply IsS116.set_1 | apply IsS116.set_2 | refine IsS116.far ?_ NB0_266.out _ | refine IsS116.far ?_ NB0_267.out _ | refine IsS116.far ?_ NB0_268.out _ | refine IsS116.far ?_ NB0_281.out _ | refine IsS116.far ?_ NB0_293.out _) | exact HI0.out))) : g ≠ gb300)); have n22_ := Aside0.mk ((by rw [hg]; exact Nat.ne_of_gt (IsS116.lt (show IsS116 w0 _ g s0_0 t298 t299 from by repeat (first | (with_reducible first | exact HI0.out | apply IsS116.alloc | apply IsS116.drewN | apply IsS116.drew | apply IsS116.set_1 | apply IsS116.set_2 | refine IsS116.far ?_ NB0_266.out _ | refine IsS116.far ?_ NB0_267.out _ | refine IsS116.far ?_ NB0_268.out _ | refine IsS116.far ?_ NB0_281.out _ | refine IsS116.far ?_ NB0_293.out _) | exact HI0.out))) : gb300 ≠ g)); clear HI0; clear BK266; clear BK267; clear BK268; clear BK281; clear BK293; clear HK; clear HB; have HI0 := n0_; have BK266 := n1_; have BK267 := n2_; have BK268 := n3_; have BK281 := n4_; have BK293 := n5_; have HK := n6_; have HB := n7_; have BK300 := n8_; have GW300 := n9_; have GE300 := n10_; have NB266_300 := n11_; have NB300_266 := n12_; have NB267_300 := n13_; have NB300_267 := n14_; have NB268_300 := n15_; have NB300_268 := n16_; have NB281_300 := n17_; have NB300_281 := n18_; have NB293_300 := n19_; have NB300_293 := n20_; have NB0_300 := n21_; have NB300_0 := n22_; clear n0_ n1_ n2_ n3_ n4_ n5_ n6_ n7_ n8_ n9_ n10_ n11_ n12_ n13_ n14_ n15_ n16_ n17_ n18_ n19_ n20_ n21_ n22_; clear hb hbox hg; have hnb37 := NB300_266.out; have hnc37 := NB266_300.out; have hnb38 := NB300_267.out; have hnc38 := NB267_300.out; have hnb39 := NB300_268.out; have hnc39 := NB268_300.out; have hnb40 := NB300_281.out; have hnc40 := NB281_300.out; have hnb41 := NB300_293.out; have hnc41 := NB293_300.out; have hnb42 := NB300_0.out; have hnc42 := NB0_300.out; have hcz43_0 : w36.cell? ⟨gb300, 0, none⟩ = some (.bool false) := (blk_cell BK300.out 0).trans rfl; have hcz43_1 : w36.cell? ⟨gb300, 1, none⟩ = some (.int .i64 0) := (blk_cell BK300.out 1).trans rfl; have hcz43_2 : w36.cell? ⟨gb300, 2, none⟩ = some (.bool false) := (blk_cell BK300.out 2).trans rfl; have hcz43_3 : w36.cell? ⟨gb300, 3, none⟩ = some (.bool false) := (blk_cell BK300.out 3).trans rfl; have hfz43_0 := blk_frozen BK300.out 0; have hfz43_1 := blk_frozen BK300.out 1; have hfz43_2 := blk_frozen BK300.out 2; have hfz43_3 := blk_frozen BK300.out 3))
 have n0_ : Aside0 (((((w36.setCell ⟨gb300, 0, none⟩ (.bool t294)).setCell ⟨gb300, 1, none⟩ (.int .i64 t295)).setCell ⟨gb300, 2, none⟩ (.bool t296)).setCell ⟨gb300, 3, none⟩ (.bool t297)).heap[gb266]? = some (.cells #[.int .i64 0, .int .i64 0, .string (⟨#[]⟩ : ByteArray)] 25 (0, 0))) := ⟨by (with_reducible repeat (first | refine blk_drewN ?_ _ | refine blk_drew ?_ | refine blk_alloc ?_ _)); refine blk_far ?_ NB266_300.out _; (with_reducible repeat (first | refine blk_drewN ?_ _ | refine blk_drew ?_ | refine blk_alloc ?_ _)); refine blk_far ?_ NB266_300.out _; (with_reducible repeat (first | refine blk_drewN ?_ _ | refine blk_drew ?_ | refine blk_alloc ?_ _)); refine blk_far ?_ NB266_300.out _; (with_reducible repeat (first | refine blk_drewN ?_ _ | refine blk_drew ?_ | refine blk_alloc ?_ _)); refine blk_far ?_ NB266_300.out _; (with_reducible repeat (first | refine blk_drewN ?_ _ | refine blk_drew ?_ | refine blk_alloc ?_ _)); exact BK266.out⟩
 have n1_ : Aside0 (((((w36.setCell ⟨gb300, 0, none⟩ (.bool t294)).setCell ⟨gb300, 1, none⟩ (.int .i64 t295)).setCell ⟨gb300, 2, none⟩ (.bool t296)).setCell ⟨gb300, 3, none⟩ (.bool t297)).heap[gb267]? = some (.cells #[.int .i64 0, .int .i64 0, .int .i64 0, .int .i64 0] 38 (0, 0))) := ⟨by (with_reducible repeat (first | refine blk_drewN ?_ _ | refine blk_drew ?_ | refine blk_alloc ?_ _)); refine blk_far ?_ NB267_300.out _; (with_reducible repeat (first | refine blk_drewN ?_ _ | refine blk_drew ?_ | refine blk_alloc ?_ _)); refine blk_far ?_ NB267_300.out _; (with_reducible repeat (first | refine blk_drewN ?_ _ | refine blk_drew ?_ | refine blk_alloc ?_ _)); refine blk_far ?_ NB267_300.out _; (with_reducible repeat (first | refine blk_drewN ?_ _ | refine blk_drew ?_ | refine blk_alloc ?_ _)); refine blk_far ?_ NB267_300.out _; (with_reducible repeat (first | refine blk_drewN ?_ _ | refine blk_drew ?_ | refine blk_alloc ?_ _)); exact BK267.out⟩
 have n2_ : Aside0 (((((w36.setCell ⟨gb300, 0, none⟩ (.bool t294)).setCell ⟨gb300, 1, none⟩ (.int .i64 t295)).setCell ⟨gb300, 2, none⟩ (.bool t296)).setCell ⟨gb300, 3, none⟩ (.bool t297)).heap[gb268]? = some (.cells #[.bool false, .int .i64 0, .bool false, .bool false] 50 (0, 0))) := ⟨by (with_reducible repeat (first | refine blk_drewN ?_ _ | refine blk_drew ?_ | refine blk_alloc ?_ _)); refine blk_far ?_ NB268_300.out _; (with_reducible repeat (first | refine blk_drewN ?_ _ | refine blk_drew ?_ | refine blk_alloc ?_ _)); refine blk_far ?_ NB268_300.out _; (with_reducible repeat (first | refine blk_drewN ?_ _ | refine blk_drew ?_ | refine blk_alloc ?_ _)); refine blk_far ?_ NB268_300.out _; (with_reducible repeat (first | refine blk_drewN ?_ _ | refine blk_drew ?_ | refine blk_alloc ?_ _)); refine blk_far ?_ NB268_300.out _; (with_reducible repeat (first | refine blk_drewN ?_ _ | refine blk_drew ?_ | refine blk_alloc ?_ _)); exact BK268.out⟩
 have n3_ : Aside0 (((((w36.setCell ⟨gb300, 0, none⟩ (.bool t294)).setCell ⟨gb300, 1, none⟩ (.int .i64 t295)).setCell ⟨gb300, 2, none⟩ (.bool t296)).setCell ⟨gb300, 3, none⟩ (.bool t297)).heap[gb281]? = some (.cells #[.int .i64 (wrap64 (8 * t269)), .int .i64 (wrap64 (8 * t272)), .int .i64 (wrap64 (8 + (wrap64 (8 * t275)))), .int .i64 (wrap64 (8 + (wrap64 (8 * t278))))] 38 (0, 0))) := ⟨by (with_reducible repeat (first | refine blk_drewN ?_ _ | refine blk_drew ?_ | refine blk_alloc ?_ _)); refine blk_far ?_ NB281_300.out _; (with_reducible repeat (first | refine blk_drewN ?_ _ | refine blk_drew ?_ | refine blk_alloc ?_ _)); refine blk_far ?_ NB281_300.out _; (with_reducible repeat (first | refine blk_drewN ?_ _ | refine blk_drew ?_ | refine blk_alloc ?_ _)); refine blk_far ?_ NB281_300.out _; (with_reducible repeat (first | refine blk_drewN ?_ _ | refine blk_drew ?_ | refine blk_alloc ?_ _)); refine blk_far ?_ NB281_300.out _; (with_reducible repeat (first | refine blk_drewN ?_ _ | refine blk_drew ?_ | refine blk_alloc ?_ _)); exact BK281.out⟩
 have n4_ : Aside0 (((((w36.setCell ⟨gb300, 0, none⟩ (.bool t294)).setCell ⟨gb300, 1, none⟩ (.int .i64 t295)).setCell ⟨gb300, 2, none⟩ (.bool t296)).setCell ⟨gb300, 3, none⟩ (.bool t297)).heap[gb293]? = some (.cells #[.int .i64 t288, .int .i64 t289, .string t290] 25 (0, 0))) := ⟨by (with_reducible repeat (first | refine blk_drewN ?_ _ | refine blk_drew ?_ | refine blk_alloc ?_ _)); refine blk_far ?_ NB293_300.out _; (with_reducible repeat (first | refine blk_drewN ?_ _ | refine blk_drew ?_ | refine blk_alloc ?_ _)); refine blk_far ?_ NB293_300.out _; (with_reducible repeat (first | refine blk_drewN ?_ _ | refine blk_drew ?_ | refine blk_alloc ?_ _)); refine blk_far ?_ NB293_300.out _; (with_reducible repeat (first | refine blk_drewN ?_ _ | refine blk_drew ?_ | refine blk_alloc ?_ _)); refine blk_far ?_ NB293_300.out _; (with_reducible repeat (first | refine blk_drewN ?_ _ | refine blk_drew ?_ | refine blk_alloc ?_ _)); exact BK293.out⟩
 have n5_ : Aside0 (((((w36.setCell ⟨gb300, 0, none⟩ (.bool t294)).setCell ⟨gb300, 1, none⟩ (.int .i64 t295)).setCell ⟨gb300, 2, none⟩ (.bool t296)).setCell ⟨gb300, 3, none⟩ (.bool t297)).heap[gb300]? = some (.cells #[.bool t294, .int .i64 t295, .bool t296, .bool t297] 50 (0, 0))) := ⟨by (with_reducible repeat (first | refine blk_drewN ?_ _ | refine blk_drew ?_ | refine blk_alloc ?_ _)); refine blk_put (cs := #[.bool t294, .int .i64 t295, .bool t296, .bool false]) ?_ 3 _ rfl; (with_reducible repeat (first | refine blk_drewN ?_ _ | refine blk_drew ?_ | refine blk_alloc ?_ _)); refine blk_put (cs := #[.bool t294, .int .i64 t295, .bool false, .bool false]) ?_ 2 _ rfl; (with_reducible repeat (first | refine blk_drewN ?_ _ | refine blk_drew ?_ | refine blk_alloc ?_ _)); refine blk_put (cs := #[.bool t294, .int .i64 0, .bool false, .bool false]) ?_ 1 _ rfl; (with_reducible repeat (first | refine blk_drewN ?_ _ | refine blk_drew ?_ | refine blk_alloc ?_ _)); refine blk_put (cs := #[.bool false, .int .i64 0, .bool false, .bool false]) ?_ 0 _ rfl; (with_reducible repeat (first | refine blk_drewN ?_ _ | refine blk_drew ?_ | refine blk_alloc ?_ _)); exact BK300.out⟩
 have n6_ : Aside0 (IsS116 w0 ((((w36.setCell ⟨gb300, 0, none⟩ (.bool t294)).setCell ⟨gb300, 1, none⟩ (.int .i64 t295)).setCell ⟨gb300, 2, none⟩ (.bool t296)).setCell ⟨gb300, 3, none⟩ (.bool t297)) g s0_0 t298 t299) := ⟨by repeat (first | (with_reducible first | exact HI0.out | apply IsS116.alloc | apply IsS116.drewN | apply IsS116.drew | apply IsS116.set_1 | apply IsS116.set_2 | refine IsS116.far ?_ NB0_266.out _ | refine IsS116.far ?_ NB0_267.out _ | refine IsS116.far ?_ NB0_268.out _ | refine IsS116.far ?_ NB0_281.out _ | refine IsS116.far ?_ NB0_293.out _ | refine IsS116.far ?_ NB0_300.out _) | exact HI0.out)⟩
 have n7_ : Aside0 (KeepBut w ((((w36.setCell ⟨gb300, 0, none⟩ (.bool t294)).setCell ⟨gb300, 1, none⟩ (.int .i64 t295)).setCell ⟨gb300, 2, none⟩ (.bool t296)).setCell ⟨gb300, 3, none⟩ (.bool t297)) g none) := ⟨by repeat (first | (with_reducible first | exact HK.out | apply KeepBut.set_ | apply keep_drewN | apply keep_drew | apply keep_alloc | refine keep_far ?_ GW266.out _ | refine keep_far ?_ GW267.out _ | refine keep_far ?_ GW268.out _ | refine keep_far ?_ GW281.out _ | refine keep_far ?_ GW293.out _ | refine keep_far ?_ GW300.out _) | exact HK.out)⟩
 have n8_ : Aside0 (Below w0.heap.size w0 ((((w36.setCell ⟨gb300, 0, none⟩ (.bool t294)).setCell ⟨gb300, 1, none⟩ (.int .i64 t295)).setCell ⟨gb300, 2, none⟩ (.bool t296)).setCell ⟨gb300, 3, none⟩ (.bool t297))) := ⟨by repeat (first | (with_reducible first | exact HB.out | apply below_alloc | apply pw_below_drewN | apply below_drew1 | refine below_set ?_ (IsS116.ge HI0.out) | refine below_set ?_ GE266.out | refine below_set ?_ GE267.out | refine below_set ?_ GE268.out | refine below_set ?_ GE281.out | refine below_set ?_ GE293.out | refine below_set ?_ GE300.out) | exact HB.out)⟩
 (try clear BK266)
 (try clear BK267)
 (try clear BK268)
 (try clear BK281)
 (try clear BK293)
 (try clear BK300)
 (try clear HI0)
 (try clear HK)
 (try clear HB)
 generalize ((((w36.setCell ⟨gb300, 0, none⟩ (.bool t294)).setCell ⟨gb300, 1, none⟩ (.int .i64 t295)).setCell ⟨gb300, 2, none⟩ (.bool t296)).setCell ⟨gb300, 3, none⟩ (.bool t297)) = w44 at n0_ n1_ n2_ n3_ n4_ n5_ n6_ n7_ n8_ ⊢
 have BK266 := n0_
 have BK267 := n1_
 have BK268 := n2_
 have BK281 := n3_
 have BK293 := n4_
 have BK300 := n5_
 have HI0 := n6_
 have HK := n7_
 have HB := n8_
 clear n0_ n1_ n2_ n3_ n4_ n5_ n6_ n7_ n8_
 have n0_ := Aside0.mk (blk_drew BK266.out)
 have n1_ := Aside0.mk (blk_drew BK267.out)
 have n2_ := Aside0.mk (blk_drew BK268.out)
 have n3_ := Aside0.mk (blk_drew BK281.out)
 have n4_ := Aside0.mk (blk_drew BK293.out)
 have n5_ := Aside0.mk (blk_drew BK300.out)
 have n6_ := Aside0.mk (IsS116.drew HI0.out)
 have n7_ := Aside0.mk (keep_drew HK.out)
 have n8_ := Aside0.mk (below_drew1 HB.out)
 clear BK266
 clear BK267
 clear BK268
 clear BK281
 clear BK293
 clear BK300
 clear HI0
 clear HK
 clear HB
 have BK266 := n0_
 have BK267 := n1_
 have BK268 := n2_
 have BK281 := n3_
 have BK293 := n4_
 have BK300 := n5_
 have HI0 := n6_
 have HK := n7_
 have HB := n8_
 clear n0_ n1_ n2_ n3_ n4_ n5_ n6_ n7_ n8_
 refine start_ (n := 21) (S := fun w' => w'.cell? ⟨gb293, 0, none⟩ = some (.int .i64 t288) ∧ w'.cell? ⟨gb293, 1, none⟩ = some (.int .i64 t289) ∧ w'.cell? ⟨gb293, 2, none⟩ = some (.string t290) ∧ w'.cell? ⟨gb281, 0, none⟩ = some (.int .i64 (wrap64 (8 * t269))) ∧ w'.cell? ⟨gb281, 1, none⟩ = some (.int .i64 (wrap64 (8 * t272))) ∧ w'.cell? ⟨gb281, 2, none⟩ = some (.int .i64 (wrap64 (8 + (wrap64 (8 * t275))))) ∧ w'.cell? ⟨gb281, 3, none⟩ = some (.int .i64 (wrap64 (8 + (wrap64 (8 * t278))))) ∧ w'.cell? ⟨gb300, 0, none⟩ = some (.bool t294) ∧ w'.cell? ⟨gb300, 1, none⟩ = some (.int .i64 t295) ∧ w'.cell? ⟨gb300, 2, none⟩ = some (.bool t296) ∧ w'.cell? ⟨gb300, 3, none⟩ = some (.bool t297)) (ds := []) #[false, false, false, false, false, false, false, false, false, false, false, false, false, false, false, false, false, false, false, false, false] (by kernel_rfl) rfl rfl ⟨(blk_cell BK293.out 0).trans rfl, (blk_cell BK293.out 1).trans rfl, (blk_cell BK293.out 2).trans rfl, (blk_cell BK281.out 0).trans rfl, (blk_cell BK281.out 1).trans rfl, (blk_cell BK281.out 2).trans rfl, (blk_cell BK281.out 3).trans rfl, (blk_cell BK300.out 0).trans rfl, (blk_cell BK300.out 1).trans rfl, (blk_cell BK300.out 2).trans rfl, (blk_cell BK300.out 3).trans rfl⟩ (fun hHeld => ?_); refine with_tabW spec_l16Drawn.tab4 spec_l16Drawn.bits4 (fun HT_ HW_ => ?_)
 generalize w44.drew = w45 at BK266 BK267 BK268 BK281 BK293 BK300 HI0 HK HB hHeld ⊢
 refine pure_ (i := 3) (N := some 49) (v := ?_) (a' := ?_) #[false, false, false, true, false, false, false, false, false, false, false, false, false, false, false, false, false, false, false, false, false] rfl rfl (any_of HT_.out (by kernel_rfl)) (fun _ _ _ h => h) (Or.inl ⟨by rfl, ?_⟩) ?_ ?_
 rotate_left
 ·intro w'
  go_simp
  with_reducible rfl
 rotate_left
 ·simp only [Act.put, List.setIfInBounds_toArray, List.set_cons_zero, List.set_cons_succ, i64_w, i32_w]
  rfl
 refine pure_ (i := 6) (N := some 52) (v := ?_) (a' := ?_) #[false, false, false, true, false, false, true, false, false, false, false, false, false, false, false, false, false, false, false, false, false] rfl rfl (any_of HT_.out (by kernel_rfl)) (fun _ _ _ h => h) (Or.inl ⟨by rfl, ?_⟩) ?_ ?_
 rotate_left
 ·intro w'
  go_simp
  with_reducible rfl
 rotate_left
 ·simp only [Act.put, List.setIfInBounds_toArray, List.set_cons_zero, List.set_cons_succ, i64_w, i32_w]
  rfl
 refine pure_ (i := 7) (N := some 53) (v := ?_) (a' := ?_) #[false, false, false, true, false, false, true, true, false, false, false, false, false, false, false, false, false, false, false, false, false] rfl rfl (any_of HT_.out (by kernel_rfl)) (fun _ _ _ h => h) (Or.inl ⟨by rfl, ?_⟩) ?_ ?_
 rotate_left
 ·intro w'
  go_simp
  with_reducible rfl
 rotate_left
 ·simp only [Act.put, List.setIfInBounds_toArray, List.set_cons_zero, List.set_cons_succ, i64_w, i32_w]
  rfl
 refine pure_ (i := 10) (N := some 56) (v := ?_) (a' := ?_) #[false, false, false, true, false, false, true, true, false, false, true, false, false, false, false, false, false, false, false, false, false] rfl rfl (any_of HT_.out (by kernel_rfl)) (fun _ _ _ h => h) (Or.inl ⟨by rfl, ?_⟩) ?_ ?_
 rotate_left
 ·intro w'
  go_simp
  with_reducible rfl
 rotate_left
 ·simp only [Act.put, List.setIfInBounds_toArray, List.set_cons_zero, List.set_cons_succ, i64_w, i32_w]
  rfl
 refine take_ (i := 0) (N := some 46) (v := ?_) (a' := ?_) #[true, false, false, true, false, false, true, true, false, false, true, false, false, false, false, false, false, false, false, false, false] rfl rfl (take_ofW HT_.out HW_.out (by kernel_rfl)) (fun _ _ _ h => h) (Or.inl ⟨by rfl, ?_⟩) hHeld ?_ ?_
 rotate_left
 ·rintro w' ⟨s0, s1, s2, s3, s4, s5, s6, s7, s8, s9, s10⟩
  go_simp
  with_reducible rfl
 rotate_left
 ·simp only [Act.put, List.setIfInBounds_toArray, List.set_cons_zero, List.set_cons_succ, i64_w, i32_w]
  rfl
 refine take_ (i := 1) (N := some 47) (v := ?_) (a' := ?_) #[true, true, false, true, false, false, true, true, false, false, true, false, false, false, false, false, false, false, false, false, false] rfl rfl (take_ofW HT_.out HW_.out (by kernel_rfl)) (fun _ _ _ h => h) (Or.inl ⟨by rfl, ?_⟩) hHeld ?_ ?_
 rotate_left
 ·rintro w' ⟨s0, s1, s2, s3, s4, s5, s6, s7, s8, s9, s10⟩
  go_simp
  with_reducible rfl
 rotate_left
 ·simp only [Act.put, List.setIfInBounds_toArray, List.set_cons_zero, List.set_cons_succ, i64_w, i32_w]
  rfl
 refine take_ (i := 2) (N := some 48) (v := ?_) (a' := ?_) #[true, true, true, true, false, false, true, true, false, false, true, false, false, false, false, false, false, false, false, false, false] rfl rfl (take_ofW HT_.out HW_.out (by kernel_rfl)) (fun _ _ _ h => h) (Or.inl ⟨by rfl, ?_⟩) hHeld ?_ ?_
 rotate_left
 ·rintro w' ⟨s0, s1, s2, s3, s4, s5, s6, s7, s8, s9, s10⟩
  go_simp
  with_reducible rfl
 rotate_left
 ·simp only [Act.put, List.setIfInBounds_toArray, List.set_cons_zero, List.set_cons_succ, i64_w, i32_w]
  rfl
 refine take_ (i := 8) (N := some 54) (v := ?_) (a' := ?_) #[true, true, true, true, false, false, true, true, true, false, true, false, false, false, false, false, false, false, false, false, false] rfl rfl (take_ofW HT_.out HW_.out (by kernel_rfl)) (fun _ _ _ h => h) (Or.inl ⟨by rfl, ?_⟩) hHeld ?_ ?_
 rotate_left
 ·rintro w' ⟨s0, s1, s2, s3, s4, s5, s6, s7, s8, s9, s10⟩
  go_simp
  with_reducible rfl
 rotate_left
 ·simp only [Act.put, List.setIfInBounds_toArray, List.set_cons_zero, List.set_cons_succ, i64_w, i32_w]
  rfl
 refine pure_ (i := 9) (N := some 55) (v := ?_) (a' := ?_) #[true, true, true, true, false, false, true, true, true, true, true, false, false, false, false, false, false, false, false, false, false] rfl rfl (any_of HT_.out (by kernel_rfl)) (fun _ _ _ h => h) (Or.inl ⟨by rfl, ?_⟩) ?_ ?_
 rotate_left
 ·intro w'
  go_simp
  with_reducible rfl
 rotate_left
 ·simp only [Act.put, List.setIfInBounds_toArray, List.set_cons_zero, List.set_cons_succ, i64_w, i32_w]
  rfl
 refine take_ (i := 11) (N := some 57) (v := ?_) (a' := ?_) #[true, true, true, true, false, false, true, true, true, true, true, true, false, false, false, false, false, false, false, false, false] rfl rfl (take_ofW HT_.out HW_.out (by kernel_rfl)) (fun _ _ _ h => h) (Or.inl ⟨by rfl, ?_⟩) hHeld ?_ ?_
 rotate_left
 ·rintro w' ⟨s0, s1, s2, s3, s4, s5, s6, s7, s8, s9, s10⟩
  go_simp
  with_reducible rfl
 rotate_left
 ·simp only [Act.put, List.setIfInBounds_toArray, List.set_cons_zero, List.set_cons_succ, i64_w, i32_w]
  rfl
 refine pure_ (i := 12) (N := some 58) (v := ?_) (a' := ?_) #[true, true, true, true, false, false, true, true, true, true, true, true, true, false, false, false, false, false, false, false, false] rfl rfl (any_of HT_.out (by kernel_rfl)) (fun _ _ _ h => h) (Or.inl ⟨by rfl, ?_⟩) ?_ ?_
 rotate_left
 ·intro w'
  go_simp
  with_reducible rfl
 rotate_left
 ·simp only [Act.put, List.setIfInBounds_toArray, List.set_cons_zero, List.set_cons_succ, i64_w, i32_w]
  rfl
 refine pure_ (i := 13) (N := some 59) (v := ?_) (a' := ?_) #[true, true, true, true, false, false, true, true, true, true, true, true, true, true, false, false, false, false, false, false, false] rfl rfl (any_of HT_.out (by kernel_rfl)) (fun _ _ _ h => h) (Or.inl ⟨by rfl, ?_⟩) ?_ ?_
 rotate_left
 ·intro w'
  go_simp
  with_reducible rfl
 rotate_left
 ·simp only [Act.put, List.setIfInBounds_toArray, List.set_cons_zero, List.set_cons_succ, i64_w, i32_w]
  rfl
 refine take_ (i := 14) (N := some 60) (v := ?_) (a' := ?_) #[true, true, true, true, false, false, true, true, true, true, true, true, true, true, true, false, false, false, false, false, false] rfl rfl (take_ofW HT_.out HW_.out (by kernel_rfl)) (fun _ _ _ h => h) (Or.inl ⟨by rfl, ?_⟩) hHeld ?_ ?_
 rotate_left
 ·rintro w' ⟨s0, s1, s2, s3, s4, s5, s6, s7, s8, s9, s10⟩
  go_simp
  with_reducible rfl
 rotate_left
 ·simp only [Act.put, List.setIfInBounds_toArray, List.set_cons_zero, List.set_cons_succ, i64_w, i32_w]
  rfl
 refine one_ (i := 4) (N := some 50) #[true, true, true, true, true, false, true, true, true, true, true, true, true, true, true, false, false, false, false, false, false] rfl rfl (one_of HT_.out (by kernel_rfl)) (by decide) (fun K hK => ?_)
 refine goes_ Try.func86 (by kernel_rfl) rfl #[.pointer (some ⟨g, 0, none⟩), .int .i64 3] (by rfl) rfl rfl (by (try simp only [List.map_toArray, List.map_cons, List.map_nil]); first | done | rfl | (simp only [List.length_drop, List.length_take]; rfl)) ?_
 with_reducible refine (spec_l01Once.calls g s0_0 t298 t299 3 t301 t302 t303 w0 _ ?side1 ?side2 A10.out).mono ?_
 (case side1 => repeat (first | (with_reducible first | exact HI0.out | apply IsS116.alloc | apply IsS116.drewN | apply IsS116.drew | apply IsS116.set_1 | apply IsS116.set_2 | refine IsS116.far ?_ NB0_266.out _ | refine IsS116.far ?_ NB0_267.out _ | refine IsS116.far ?_ NB0_268.out _ | refine IsS116.far ?_ NB0_281.out _ | refine IsS116.far ?_ NB0_293.out _ | refine IsS116.far ?_ NB0_300.out _) | exact HI0.out))
 (case side2 => repeat (first | (with_reducible first | exact HB.out | apply below_alloc | apply pw_below_drewN | apply below_drew1 | refine below_set ?_ (IsS116.ge HI0.out) | refine below_set ?_ GE266.out | refine below_set ?_ GE267.out | refine below_set ?_ GE268.out | refine below_set ?_ GE281.out | refine below_set ?_ GE293.out | refine below_set ?_ GE300.out) | exact HB.out))
 rintro e w46 ⟨rfl, hi, hb, hk⟩
 refine ⟨_, rfl, ?_⟩
 have n0_ := Aside0.mk (KeepBut.blk hk (g' := gb266) (o := .cells #[.int .i64 0, .int .i64 0, .string (⟨#[]⟩ : ByteArray)] 25 (0, 0)) (by (with_reducible repeat (first | refine blk_drewN ?_ _ | refine blk_drew ?_ | refine blk_alloc ?_ _)); exact BK266.out) NB266_0.out (by simp))
 have n1_ := Aside0.mk (KeepBut.blk hk (g' := gb267) (o := .cells #[.int .i64 0, .int .i64 0, .int .i64 0, .int .i64 0] 38 (0, 0)) (by (with_reducible repeat (first | refine blk_drewN ?_ _ | refine blk_drew ?_ | refine blk_alloc ?_ _)); exact BK267.out) NB267_0.out (by simp))
 have n2_ := Aside0.mk (KeepBut.blk hk (g' := gb268) (o := .cells #[.bool false, .int .i64 0, .bool false, .bool false] 50 (0, 0)) (by (with_reducible repeat (first | refine blk_drewN ?_ _ | refine blk_drew ?_ | refine blk_alloc ?_ _)); exact BK268.out) NB268_0.out (by simp))
 have n3_ := Aside0.mk (KeepBut.blk hk (g' := gb281) (o := .cells #[.int .i64 (wrap64 (8 * t269)), .int .i64 (wrap64 (8 * t272)), .int .i64 (wrap64 (8 + (wrap64 (8 * t275)))), .int .i64 (wrap64 (8 + (wrap64 (8 * t278))))] 38 (0, 0)) (by (with_reducible repeat (first | refine blk_drewN ?_ _ | refine blk_drew ?_ | refine blk_alloc ?_ _)); exact BK281.out) NB281_0.out (by simp))
 have n4_ := Aside0.mk (KeepBut.blk hk (g' := gb293) (o := .cells #[.int .i64 t288, .int .i64 t289, .string t290] 25 (0, 0)) (by (with_reducible repeat (first | refine blk_drewN ?_ _ | refine blk_drew ?_ | refine blk_alloc ?_ _)); exact BK293.out) NB293_0.out (by simp))
 have n5_ := Aside0.mk (KeepBut.blk hk (g' := gb300) (o := .cells #[.bool t294, .int .i64 t295, .bool t296, .bool t297] 50 (0, 0)) (by (with_reducible repeat (first | refine blk_drewN ?_ _ | refine blk_drew ?_ | refine blk_alloc ?_ _)); exact BK300.out) NB300_0.out (by simp))
 have n6_ := Aside0.mk (KeepBut.trans (by repeat (first | (with_reducible first | exact HK.out | apply KeepBut.set_ | apply keep_drewN | apply keep_drew | apply keep_alloc | refine keep_far ?_ GW266.out _ | refine keep_far ?_ GW267.out _ | refine keep_far ?_ GW268.out _ | refine keep_far ?_ GW281.out _ | refine keep_far ?_ GW293.out _ | refine keep_far ?_ GW300.out _) | exact HK.out)) hk (.inl rfl))
 have n7_ := Aside0.mk (hb)
 have n8_ := Aside0.mk (hi)
 clear BK266
 clear BK267
 clear BK268
 clear BK281
 clear BK293
 clear BK300
 clear HK
 clear HB
 clear HI0
 have BK266 := n0_
 have BK267 := n1_
 have BK268 := n2_
 have BK281 := n3_
 have BK293 := n4_
 have BK300 := n5_
 have HK := n6_
 have HB := n7_
 have HI0 := n8_
 clear n0_ n1_ n2_ n3_ n4_ n5_ n6_ n7_ n8_
 (try clear hb)
 (try clear hb2)
 (try clear hk)
 (try clear hi)
 refine hK.out _ _ ⟨(blk_cell BK293.out 0).trans rfl, (blk_cell BK293.out 1).trans rfl, (blk_cell BK293.out 2).trans rfl, (blk_cell BK281.out 0).trans rfl, (blk_cell BK281.out 1).trans rfl, (blk_cell BK281.out 2).trans rfl, (blk_cell BK281.out 3).trans rfl, (blk_cell BK300.out 0).trans rfl, (blk_cell BK300.out 1).trans rfl, (blk_cell BK300.out 2).trans rfl, (blk_cell BK300.out 3).trans rfl⟩ (fun hHeld => ?_)
 clear hK K
 refine norm_ (a' := ?_) ?_ ?_
 rotate_left
 ·show Act.put _ (some 50) _ = _
  simp only [Act.put, List.setIfInBounds_toArray, List.set_cons_zero, List.set_cons_succ, i64_w, i32_w]
  rfl
 refine pure_ (i := 5) (N := some 51) (v := ?_) (a' := ?_) #[true, true, true, true, true, true, true, true, true, true, true, true, true, true, true, false, false, false, false, false, false] rfl rfl (any_of HT_.out (by kernel_rfl)) (fun _ _ _ h => h) (Or.inl ⟨by rfl, ?_⟩) ?_ ?_
 rotate_left
 ·intro w'
  go_simp
  with_reducible rfl
 rotate_left
 ·simp only [Act.put, List.setIfInBounds_toArray, List.set_cons_zero, List.set_cons_succ, i64_w, i32_w]
  rfl
 refine one_ (i := 15) (N := some 61) #[true, true, true, true, true, true, true, true, true, true, true, true, true, true, true, true, false, false, false, false, false] rfl rfl (one_of HT_.out (by kernel_rfl)) (by decide) (fun K hK => ?_)
 refine goes_ Try.func124 (by kernel_rfl) rfl #[.pointer (some ⟨g, 0, none⟩), .int .i64 (wrap64 ((wrap64 (Int.tdiv (wrap64 (8 + (wrap64 (8 * t275)))) 8)) * (wrap64 (Int.tdiv (wrap64 (8 + (wrap64 (8 * t278)))) 8)))), .agg #[.bool t294, .int .i64 t295, .bool t296, .bool t297]] (by rfl) rfl rfl (by (try simp only [List.map_toArray, List.map_cons, List.map_nil]); first | done | rfl | (simp only [List.length_drop, List.length_take]; rfl)) ?_
 with_reducible refine (spec_l16Squares.calls k g s0_0 t302 t303 (wrap64 ((wrap64 (Int.tdiv (wrap64 (8 + (wrap64 (8 * t275)))) 8)) * (wrap64 (Int.tdiv (wrap64 (8 + (wrap64 (8 * t278)))) 8)))) t294 t295 t296 t297 t304 t307 t308 w0 _ ?side1 ?side2 A11.out).mono ?_
 (case side1 => repeat (first | (with_reducible first | exact HI0.out | apply IsS116.alloc | apply IsS116.drewN | apply IsS116.drew | apply IsS116.set_1 | apply IsS116.set_2 | refine IsS116.far ?_ NB0_266.out _ | refine IsS116.far ?_ NB0_267.out _ | refine IsS116.far ?_ NB0_268.out _ | refine IsS116.far ?_ NB0_281.out _ | refine IsS116.far ?_ NB0_293.out _ | refine IsS116.far ?_ NB0_300.out _) | exact HI0.out))
 (case side2 => repeat (first | (with_reducible first | exact HB.out | apply below_alloc | apply pw_below_drewN | apply below_drew1 | refine below_set ?_ (IsS116.ge HI0.out) | refine below_set ?_ GE266.out | refine below_set ?_ GE267.out | refine below_set ?_ GE268.out | refine below_set ?_ GE281.out | refine below_set ?_ GE293.out | refine below_set ?_ GE300.out) | exact HB.out))
 rintro e w47 ⟨v305, rfl, ho0, hi, hb, hk⟩
 refine ⟨_, rfl, ?_⟩
 have n0_ := Aside0.mk (KeepBut.blk hk (g' := gb266) (o := .cells #[.int .i64 0, .int .i64 0, .string (⟨#[]⟩ : ByteArray)] 25 (0, 0)) (by (with_reducible repeat (first | refine blk_drewN ?_ _ | refine blk_drew ?_ | refine blk_alloc ?_ _)); exact BK266.out) NB266_0.out (by simp))
 have n1_ := Aside0.mk (KeepBut.blk hk (g' := gb267) (o := .cells #[.int .i64 0, .int .i64 0, .int .i64 0, .int .i64 0] 38 (0, 0)) (by (with_reducible repeat (first | refine blk_drewN ?_ _ | refine blk_drew ?_ | refine blk_alloc ?_ _)); exact BK267.out) NB267_0.out (by simp))
 have n2_ := Aside0.mk (KeepBut.blk hk (g' := gb268) (o := .cells #[.bool false, .int .i64 0, .bool false, .bool false] 50 (0, 0)) (by (with_reducible repeat (first | refine blk_drewN ?_ _ | refine blk_drew ?_ | refine blk_alloc ?_ _)); exact BK268.out) NB268_0.out (by simp))
 have n3_ := Aside0.mk (KeepBut.blk hk (g' := gb281) (o := .cells #[.int .i64 (wrap64 (8 * t269)), .int .i64 (wrap64 (8 * t272)), .int .i64 (wrap64 (8 + (wrap64 (8 * t275)))), .int .i64 (wrap64 (8 + (wrap64 (8 * t278))))] 38 (0, 0)) (by (with_reducible repeat (first | refine blk_drewN ?_ _ | refine blk_drew ?_ | refine blk_alloc ?_ _)); exact BK281.out) NB281_0.out (by simp))
 have n4_ := Aside0.mk (KeepBut.blk hk (g' := gb293) (o := .cells #[.int .i64 t288, .int .i64 t289, .string t290] 25 (0, 0)) (by (with_reducible repeat (first | refine blk_drewN ?_ _ | refine blk_drew ?_ | refine blk_alloc ?_ _)); exact BK293.out) NB293_0.out (by simp))
 have n5_ := Aside0.mk (KeepBut.blk hk (g' := gb300) (o := .cells #[.bool t294, .int .i64 t295, .bool t296, .bool t297] 50 (0, 0)) (by (with_reducible repeat (first | refine blk_drewN ?_ _ | refine blk_drew ?_ | refine blk_alloc ?_ _)); exact BK300.out) NB300_0.out (by simp))
 have n6_ := Aside0.mk (Kd.S_lower ho0 (keep_size (w := w) (g := g) (row := none) (by repeat (first | (with_reducible first | exact HK.out | apply KeepBut.set_ | apply keep_drewN | apply keep_drew | apply keep_alloc | refine keep_far ?_ GW266.out _ | refine keep_far ?_ GW267.out _ | refine keep_far ?_ GW268.out _ | refine keep_far ?_ GW281.out _ | refine keep_far ?_ GW293.out _ | refine keep_far ?_ GW300.out _) | exact HK.out))))
 have n7_ := Aside0.mk (KeepBut.trans (by repeat (first | (with_reducible first | exact HK.out | apply KeepBut.set_ | apply keep_drewN | apply keep_drew | apply keep_alloc | refine keep_far ?_ GW266.out _ | refine keep_far ?_ GW267.out _ | refine keep_far ?_ GW268.out _ | refine keep_far ?_ GW281.out _ | refine keep_far ?_ GW293.out _ | refine keep_far ?_ GW300.out _) | exact HK.out)) hk (.inl rfl))
 have n8_ := Aside0.mk (hb)
 have n9_ := Aside0.mk (hi)
 clear BK266
 clear BK267
 clear BK268
 clear BK281
 clear BK293
 clear BK300
 clear HK
 clear HB
 clear HI0
 have BK266 := n0_
 have BK267 := n1_
 have BK268 := n2_
 have BK281 := n3_
 have BK293 := n4_
 have BK300 := n5_
 have HO306 := n6_
 have HK := n7_
 have HB := n8_
 have HI0 := n9_
 clear n0_ n1_ n2_ n3_ n4_ n5_ n6_ n7_ n8_ n9_
 (try clear hb)
 (try clear hb2)
 (try clear hk)
 (try clear hi)
 (try clear ho0)
 refine hK.out _ _ ⟨(blk_cell BK293.out 0).trans rfl, (blk_cell BK293.out 1).trans rfl, (blk_cell BK293.out 2).trans rfl, (blk_cell BK281.out 0).trans rfl, (blk_cell BK281.out 1).trans rfl, (blk_cell BK281.out 2).trans rfl, (blk_cell BK281.out 3).trans rfl, (blk_cell BK300.out 0).trans rfl, (blk_cell BK300.out 1).trans rfl, (blk_cell BK300.out 2).trans rfl, (blk_cell BK300.out 3).trans rfl⟩ (fun hHeld => ?_)
 clear hK K
 refine norm_ (a' := ?_) ?_ ?_
 rotate_left
 ·show Act.put _ (some 61) _ = _
  simp only [Act.put, List.setIfInBounds_toArray, List.set_cons_zero, List.set_cons_succ, i64_w, i32_w]
  rfl
 refine one_ (i := 16) (N := none) #[true, true, true, true, true, true, true, true, true, true, true, true, true, true, true, true, true, false, false, false, false] rfl rfl (one_of HT_.out (by kernel_rfl)) (by decide) (fun K hK => ?_)
 have hs48 : w47.cell? ⟨gb266, 0, none⟩ = some (.int .i64 0) := (blk_cell BK266.out 0).trans rfl
 have hfs48 := blk_frozen BK266.out 0
 have hns48_1 := NB267_266.out
 have hns48_2 := NB268_266.out
 have hns48_3 := NB281_266.out
 have hns48_4 := NB293_266.out
 have hns48_5 := NB300_266.out
 have hms48_1 := NB266_267.out
 have hms48_2 := NB266_268.out
 have hms48_3 := NB266_281.out
 have hms48_4 := NB266_293.out
 have hms48_5 := NB266_300.out
 have hs49 : w47.cell? ⟨gb266, 1, none⟩ = some (.int .i64 0) := (blk_cell BK266.out 1).trans rfl
 have hfs49 := blk_frozen BK266.out 1
 have hns49_1 := NB267_266.out
 have hns49_2 := NB268_266.out
 have hns49_3 := NB281_266.out
 have hns49_4 := NB293_266.out
 have hns49_5 := NB300_266.out
 have hms49_1 := NB266_267.out
 have hms49_2 := NB266_268.out
 have hms49_3 := NB266_281.out
 have hms49_4 := NB266_293.out
 have hms49_5 := NB266_300.out
 have hs50 : w47.cell? ⟨gb266, 2, none⟩ = some (.string (⟨#[]⟩ : ByteArray)) := (blk_cell BK266.out 2).trans rfl
 have hfs50 := blk_frozen BK266.out 2
 have hns50_1 := NB267_266.out
 have hns50_2 := NB268_266.out
 have hns50_3 := NB281_266.out
 have hns50_4 := NB293_266.out
 have hns50_5 := NB300_266.out
 have hms50_1 := NB266_267.out
 have hms50_2 := NB266_268.out
 have hms50_3 := NB266_281.out
 have hms50_4 := NB266_293.out
 have hms50_5 := NB266_300.out
 refine skip_ (w1 := ?_) ?hw_ ?hN_ ?hr_ ?_
 case hw_ => rfl
 case hN_ => rfl
 case hr_ =>
  go_simp
  rfl
 refine hK.out _ _ ⟨((cell_far (p := ⟨gb266, _, none⟩) NB293_266.out _).trans (((cell_far (p := ⟨gb266, _, none⟩) NB293_266.out _).trans (((cell_far (p := ⟨gb266, _, none⟩) NB293_266.out _).trans (hHeld.1)))))), ((cell_far (p := ⟨gb266, _, none⟩) NB293_266.out _).trans (((cell_far (p := ⟨gb266, _, none⟩) NB293_266.out _).trans (((cell_far (p := ⟨gb266, _, none⟩) NB293_266.out _).trans (hHeld.2.1)))))), ((cell_far (p := ⟨gb266, _, none⟩) NB293_266.out _).trans (((cell_far (p := ⟨gb266, _, none⟩) NB293_266.out _).trans (((cell_far (p := ⟨gb266, _, none⟩) NB293_266.out _).trans (hHeld.2.2.1)))))), ((cell_far (p := ⟨gb266, _, none⟩) NB281_266.out _).trans (((cell_far (p := ⟨gb266, _, none⟩) NB281_266.out _).trans (((cell_far (p := ⟨gb266, _, none⟩) NB281_266.out _).trans (hHeld.2.2.2.1)))))), ((cell_far (p := ⟨gb266, _, none⟩) NB281_266.out _).trans (((cell_far (p := ⟨gb266, _, none⟩) NB281_266.out _).trans (((cell_far (p := ⟨gb266, _, none⟩) NB281_266.out _).trans (hHeld.2.2.2.2.1)))))), ((cell_far (p := ⟨gb266, _, none⟩) NB281_266.out _).trans (((cell_far (p := ⟨gb266, _, none⟩) NB281_266.out _).trans (((cell_far (p := ⟨gb266, _, none⟩) NB281_266.out _).trans (hHeld.2.2.2.2.2.1)))))), ((cell_far (p := ⟨gb266, _, none⟩) NB281_266.out _).trans (((cell_far (p := ⟨gb266, _, none⟩) NB281_266.out _).trans (((cell_far (p := ⟨gb266, _, none⟩) NB281_266.out _).trans (hHeld.2.2.2.2.2.2.1)))))), ((cell_far (p := ⟨gb266, _, none⟩) NB300_266.out _).trans (((cell_far (p := ⟨gb266, _, none⟩) NB300_266.out _).trans (((cell_far (p := ⟨gb266, _, none⟩) NB300_266.out _).trans (hHeld.2.2.2.2.2.2.2.1)))))), ((cell_far (p := ⟨gb266, _, none⟩) NB300_266.out _).trans (((cell_far (p := ⟨gb266, _, none⟩) NB300_266.out _).trans (((cell_far (p := ⟨gb266, _, none⟩) NB300_266.out _).trans (hHeld.2.2.2.2.2.2.2.2.1)))))), ((cell_far (p := ⟨gb266, _, none⟩) NB300_266.out _).trans (((cell_far (p := ⟨gb266, _, none⟩) NB300_266.out _).trans (((cell_far (p := ⟨gb266, _, none⟩) NB300_266.out _).trans (hHeld.2.2.2.2.2.2.2.2.2.1)))))), ((cell_far (p := ⟨gb266, _, none⟩) NB300_266.out _).trans (((cell_far (p := ⟨gb266, _, none⟩) NB300_266.out _).trans (((cell_far (p := ⟨gb266, _, none⟩) NB300_266.out _).trans (hHeld.2.2.2.2.2.2.2.2.2.2))))))⟩ (fun hHeld => ?_)
 clear hK K
 refine one_ (i := 17) (N := none) #[true, true, true, true, true, true, true, true, true, true, true, true, true, true, true, true, true, true, false, false, false] rfl rfl (one_of HT_.out (by kernel_rfl)) (by decide) (fun K hK => ?_)
 have hs51 : w47.cell? ⟨gb267, 0, none⟩ = some (.int .i64 0) := (blk_cell BK267.out 0).trans rfl
 have hfs51 := blk_frozen BK267.out 0
 have hns51_0 := NB266_267.out
 have hns51_2 := NB268_267.out
 have hns51_3 := NB281_267.out
 have hns51_4 := NB293_267.out
 have hns51_5 := NB300_267.out
 have hms51_0 := NB267_266.out
 have hms51_2 := NB267_268.out
 have hms51_3 := NB267_281.out
 have hms51_4 := NB267_293.out
 have hms51_5 := NB267_300.out
 have hs52 : w47.cell? ⟨gb267, 1, none⟩ = some (.int .i64 0) := (blk_cell BK267.out 1).trans rfl
 have hfs52 := blk_frozen BK267.out 1
 have hns52_0 := NB266_267.out
 have hns52_2 := NB268_267.out
 have hns52_3 := NB281_267.out
 have hns52_4 := NB293_267.out
 have hns52_5 := NB300_267.out
 have hms52_0 := NB267_266.out
 have hms52_2 := NB267_268.out
 have hms52_3 := NB267_281.out
 have hms52_4 := NB267_293.out
 have hms52_5 := NB267_300.out
 have hs53 : w47.cell? ⟨gb267, 2, none⟩ = some (.int .i64 0) := (blk_cell BK267.out 2).trans rfl
 have hfs53 := blk_frozen BK267.out 2
 have hns53_0 := NB266_267.out
 have hns53_2 := NB268_267.out
 have hns53_3 := NB281_267.out
 have hns53_4 := NB293_267.out
 have hns53_5 := NB300_267.out
 have hms53_0 := NB267_266.out
 have hms53_2 := NB267_268.out
 have hms53_3 := NB267_281.out
 have hms53_4 := NB267_293.out
 have hms53_5 := NB267_300.out
 have hs54 : w47.cell? ⟨gb267, 3, none⟩ = some (.int .i64 0) := (blk_cell BK267.out 3).trans rfl
 have hfs54 := blk_frozen BK267.out 3
 have hns54_0 := NB266_267.out
 have hns54_2 := NB268_267.out
 have hns54_3 := NB281_267.out
 have hns54_4 := NB293_267.out
 have hns54_5 := NB300_267.out
 have hms54_0 := NB267_266.out
 have hms54_2 := NB267_268.out
 have hms54_3 := NB267_281.out
 have hms54_4 := NB267_293.out
 have hms54_5 := NB267_300.out
 refine skip_ (w1 := ?_) ?hw_ ?hN_ ?hr_ ?_
 case hw_ => rfl
 case hN_ => rfl
 case hr_ =>
  go_simp
  rfl
 refine hK.out _ _ ⟨((cell_far (p := ⟨gb267, _, none⟩) NB293_267.out _).trans (((cell_far (p := ⟨gb267, _, none⟩) NB293_267.out _).trans (((cell_far (p := ⟨gb267, _, none⟩) NB293_267.out _).trans (((cell_far (p := ⟨gb267, _, none⟩) NB293_267.out _).trans (hHeld.1)))))))), ((cell_far (p := ⟨gb267, _, none⟩) NB293_267.out _).trans (((cell_far (p := ⟨gb267, _, none⟩) NB293_267.out _).trans (((cell_far (p := ⟨gb267, _, none⟩) NB293_267.out _).trans (((cell_far (p := ⟨gb267, _, none⟩) NB293_267.out _).trans (hHeld.2.1)))))))), ((cell_far (p := ⟨gb267, _, none⟩) NB293_267.out _).trans (((cell_far (p := ⟨gb267, _, none⟩) NB293_267.out _).trans (((cell_far (p := ⟨gb267, _, none⟩) NB293_267.out _).trans (((cell_far (p := ⟨gb267, _, none⟩) NB293_267.out _).trans (hHeld.2.2.1)))))))), ((cell_far (p := ⟨gb267, _, none⟩) NB281_267.out _).trans (((cell_far (p := ⟨gb267, _, none⟩) NB281_267.out _).trans (((cell_far (p := ⟨gb267, _, none⟩) NB281_267.out _).trans (((cell_far (p := ⟨gb267, _, none⟩) NB281_267.out _).trans (hHeld.2.2.2.1)))))))), ((cell_far (p := ⟨gb267, _, none⟩) NB281_267.out _).trans (((cell_far (p := ⟨gb267, _, none⟩) NB281_267.out _).trans (((cell_far (p := ⟨gb267, _, none⟩) NB281_267.out _).trans (((cell_far (p := ⟨gb267, _, none⟩) NB281_267.out _).trans (hHeld.2.2.2.2.1)))))))), ((cell_far (p := ⟨gb267, _, none⟩) NB281_267.out _).trans (((cell_far (p := ⟨gb267, _, none⟩) NB281_267.out _).trans (((cell_far (p := ⟨gb267, _, none⟩) NB281_267.out _).trans (((cell_far (p := ⟨gb267, _, none⟩) NB281_267.out _).trans (hHeld.2.2.2.2.2.1)))))))), ((cell_far (p := ⟨gb267, _, none⟩) NB281_267.out _).trans (((cell_far (p := ⟨gb267, _, none⟩) NB281_267.out _).trans (((cell_far (p := ⟨gb267, _, none⟩) NB281_267.out _).trans (((cell_far (p := ⟨gb267, _, none⟩) NB281_267.out _).trans (hHeld.2.2.2.2.2.2.1)))))))), ((cell_far (p := ⟨gb267, _, none⟩) NB300_267.out _).trans (((cell_far (p := ⟨gb267, _, none⟩) NB300_267.out _).trans (((cell_far (p := ⟨gb267, _, none⟩) NB300_267.out _).trans (((cell_far (p := ⟨gb267, _, none⟩) NB300_267.out _).trans (hHeld.2.2.2.2.2.2.2.1)))))))), ((cell_far (p := ⟨gb267, _, none⟩) NB300_267.out _).trans (((cell_far (p := ⟨gb267, _, none⟩) NB300_267.out _).trans (((cell_far (p := ⟨gb267, _, none⟩) NB300_267.out _).trans (((cell_far (p := ⟨gb267, _, none⟩) NB300_267.out _).trans (hHeld.2.2.2.2.2.2.2.2.1)))))))), ((cell_far (p := ⟨gb267, _, none⟩) NB300_267.out _).trans (((cell_far (p := ⟨gb267, _, none⟩) NB300_267.out _).trans (((cell_far (p := ⟨gb267, _, none⟩) NB300_267.out _).trans (((cell_far (p := ⟨gb267, _, none⟩) NB300_267.out _).trans (hHeld.2.2.2.2.2.2.2.2.2.1)))))))), ((cell_far (p := ⟨gb267, _, none⟩) NB300_267.out _).trans (((cell_far (p := ⟨gb267, _, none⟩) NB300_267.out _).trans (((cell_far (p := ⟨gb267, _, none⟩) NB300_267.out _).trans (((cell_far (p := ⟨gb267, _, none⟩) NB300_267.out _).trans (hHeld.2.2.2.2.2.2.2.2.2.2))))))))⟩ (fun hHeld => ?_)
 clear hK K
 refine one_ (i := 18) (N := none) #[true, true, true, true, true, true, true, true, true, true, true, true, true, true, true, true, true, true, true, false, false] rfl rfl (one_of HT_.out (by kernel_rfl)) (by decide) (fun K hK => ?_)
 have hs55 : w47.cell? ⟨gb268, 0, none⟩ = some (.bool false) := (blk_cell BK268.out 0).trans rfl
 have hfs55 := blk_frozen BK268.out 0
 have hns55_0 := NB266_268.out
 have hns55_1 := NB267_268.out
 have hns55_3 := NB281_268.out
 have hns55_4 := NB293_268.out
 have hns55_5 := NB300_268.out
 have hms55_0 := NB268_266.out
 have hms55_1 := NB268_267.out
 have hms55_3 := NB268_281.out
 have hms55_4 := NB268_293.out
 have hms55_5 := NB268_300.out
 have hs56 : w47.cell? ⟨gb268, 1, none⟩ = some (.int .i64 0) := (blk_cell BK268.out 1).trans rfl
 have hfs56 := blk_frozen BK268.out 1
 have hns56_0 := NB266_268.out
 have hns56_1 := NB267_268.out
 have hns56_3 := NB281_268.out
 have hns56_4 := NB293_268.out
 have hns56_5 := NB300_268.out
 have hms56_0 := NB268_266.out
 have hms56_1 := NB268_267.out
 have hms56_3 := NB268_281.out
 have hms56_4 := NB268_293.out
 have hms56_5 := NB268_300.out
 have hs57 : w47.cell? ⟨gb268, 2, none⟩ = some (.bool false) := (blk_cell BK268.out 2).trans rfl
 have hfs57 := blk_frozen BK268.out 2
 have hns57_0 := NB266_268.out
 have hns57_1 := NB267_268.out
 have hns57_3 := NB281_268.out
 have hns57_4 := NB293_268.out
 have hns57_5 := NB300_268.out
 have hms57_0 := NB268_266.out
 have hms57_1 := NB268_267.out
 have hms57_3 := NB268_281.out
 have hms57_4 := NB268_293.out
 have hms57_5 := NB268_300.out
 have hs58 : w47.cell? ⟨gb268, 3, none⟩ = some (.bool false) := (blk_cell BK268.out 3).trans rfl
 have hfs58 := blk_frozen BK268.out 3
 have hns58_0 := NB266_268.out
 have hns58_1 := NB267_268.out
 have hns58_3 := NB281_268.out
 have hns58_4 := NB293_268.out
 have hns58_5 := NB300_268.out
 have hms58_0 := NB268_266.out
 have hms58_1 := NB268_267.out
 have hms58_3 := NB268_281.out
 have hms58_4 := NB268_293.out
 have hms58_5 := NB268_300.out
 refine skip_ (w1 := ?_) ?hw_ ?hN_ ?hr_ ?_
 case hw_ => rfl
 case hN_ => rfl
 case hr_ =>
  go_simp
  rfl
 refine hK.out _ _ ⟨((cell_far (p := ⟨gb268, _, none⟩) NB293_268.out _).trans (((cell_far (p := ⟨gb268, _, none⟩) NB293_268.out _).trans (((cell_far (p := ⟨gb268, _, none⟩) NB293_268.out _).trans (((cell_far (p := ⟨gb268, _, none⟩) NB293_268.out _).trans (hHeld.1)))))))), ((cell_far (p := ⟨gb268, _, none⟩) NB293_268.out _).trans (((cell_far (p := ⟨gb268, _, none⟩) NB293_268.out _).trans (((cell_far (p := ⟨gb268, _, none⟩) NB293_268.out _).trans (((cell_far (p := ⟨gb268, _, none⟩) NB293_268.out _).trans (hHeld.2.1)))))))), ((cell_far (p := ⟨gb268, _, none⟩) NB293_268.out _).trans (((cell_far (p := ⟨gb268, _, none⟩) NB293_268.out _).trans (((cell_far (p := ⟨gb268, _, none⟩) NB293_268.out _).trans (((cell_far (p := ⟨gb268, _, none⟩) NB293_268.out _).trans (hHeld.2.2.1)))))))), ((cell_far (p := ⟨gb268, _, none⟩) NB281_268.out _).trans (((cell_far (p := ⟨gb268, _, none⟩) NB281_268.out _).trans (((cell_far (p := ⟨gb268, _, none⟩) NB281_268.out _).trans (((cell_far (p := ⟨gb268, _, none⟩) NB281_268.out _).trans (hHeld.2.2.2.1)))))))), ((cell_far (p := ⟨gb268, _, none⟩) NB281_268.out _).trans (((cell_far (p := ⟨gb268, _, none⟩) NB281_268.out _).trans (((cell_far (p := ⟨gb268, _, none⟩) NB281_268.out _).trans (((cell_far (p := ⟨gb268, _, none⟩) NB281_268.out _).trans (hHeld.2.2.2.2.1)))))))), ((cell_far (p := ⟨gb268, _, none⟩) NB281_268.out _).trans (((cell_far (p := ⟨gb268, _, none⟩) NB281_268.out _).trans (((cell_far (p := ⟨gb268, _, none⟩) NB281_268.out _).trans (((cell_far (p := ⟨gb268, _, none⟩) NB281_268.out _).trans (hHeld.2.2.2.2.2.1)))))))), ((cell_far (p := ⟨gb268, _, none⟩) NB281_268.out _).trans (((cell_far (p := ⟨gb268, _, none⟩) NB281_268.out _).trans (((cell_far (p := ⟨gb268, _, none⟩) NB281_268.out _).trans (((cell_far (p := ⟨gb268, _, none⟩) NB281_268.out _).trans (hHeld.2.2.2.2.2.2.1)))))))), ((cell_far (p := ⟨gb268, _, none⟩) NB300_268.out _).trans (((cell_far (p := ⟨gb268, _, none⟩) NB300_268.out _).trans (((cell_far (p := ⟨gb268, _, none⟩) NB300_268.out _).trans (((cell_far (p := ⟨gb268, _, none⟩) NB300_268.out _).trans (hHeld.2.2.2.2.2.2.2.1)))))))), ((cell_far (p := ⟨gb268, _, none⟩) NB300_268.out _).trans (((cell_far (p := ⟨gb268, _, none⟩) NB300_268.out _).trans (((cell_far (p := ⟨gb268, _, none⟩) NB300_268.out _).trans (((cell_far (p := ⟨gb268, _, none⟩) NB300_268.out _).trans (hHeld.2.2.2.2.2.2.2.2.1)))))))), ((cell_far (p := ⟨gb268, _, none⟩) NB300_268.out _).trans (((cell_far (p := ⟨gb268, _, none⟩) NB300_268.out _).trans (((cell_far (p := ⟨gb268, _, none⟩) NB300_268.out _).trans (((cell_far (p := ⟨gb268, _, none⟩) NB300_268.out _).trans (hHeld.2.2.2.2.2.2.2.2.2.1)))))))), ((cell_far (p := ⟨gb268, _, none⟩) NB300_268.out _).trans (((cell_far (p := ⟨gb268, _, none⟩) NB300_268.out _).trans (((cell_far (p := ⟨gb268, _, none⟩) NB300_268.out _).trans (((cell_far (p := ⟨gb268, _, none⟩) NB300_268.out _).trans (hHeld.2.2.2.2.2.2.2.2.2.2))))))))⟩ (fun hHeld => ?_)
 clear hK K
 refine pure_ (i := 19) (N := some 5) (v := ?_) (a' := ?_) #[true, true, true, true, true, true, true, true, true, true, true, true, true, true, true, true, true, true, true, true, false] rfl rfl (any_of HT_.out (by kernel_rfl)) (fun _ _ _ h => h) (Or.inl ⟨by rfl, ?_⟩) ?_ ?_
 rotate_left
 ·intro w'
  go_simp
  with_reducible rfl
 rotate_left
 ·simp only [Act.put, List.setIfInBounds_toArray, List.set_cons_zero, List.set_cons_succ, i64_w, i32_w]
  rfl
 refine pure_ (i := 20) (N := some 6) (v := ?_) (a' := ?_) #[true, true, true, true, true, true, true, true, true, true, true, true, true, true, true, true, true, true, true, true, true] rfl rfl (any_of HT_.out (by kernel_rfl)) (fun _ _ _ h => h) (Or.inl ⟨by rfl, ?_⟩) ?_ ?_
 rotate_left
 ·intro w'
  go_simp
  with_reducible rfl
 rotate_left
 ·simp only [Act.put, List.setIfInBounds_toArray, List.set_cons_zero, List.set_cons_succ, i64_w, i32_w]
  rfl
 refine done_ (done_of HT_.out (by kernel_rfl)) ?_
 try go_wp2
 refine bodyPost_ret (results_list (rs := [.cell 2 25, .cell 3 38, .cell 4 50, .tmp 5, .tmp 6]) rfl (by simp) (.cell gb266 25 #[.int .i64 t288, .int .i64 t289, .string t290] (0, 0) _ rfl (by (with_reducible repeat (first | refine blk_drewN ?_ _ | refine blk_drew ?_ | refine blk_alloc ?_ _)); refine blk_far ?_ NB266_268.out _; (with_reducible repeat (first | refine blk_drewN ?_ _ | refine blk_drew ?_ | refine blk_alloc ?_ _)); refine blk_far ?_ NB266_268.out _; (with_reducible repeat (first | refine blk_drewN ?_ _ | refine blk_drew ?_ | refine blk_alloc ?_ _)); refine blk_far ?_ NB266_268.out _; (with_reducible repeat (first | refine blk_drewN ?_ _ | refine blk_drew ?_ | refine blk_alloc ?_ _)); refine blk_far ?_ NB266_268.out _; (with_reducible repeat (first | refine blk_drewN ?_ _ | refine blk_drew ?_ | refine blk_alloc ?_ _)); refine blk_far ?_ NB266_267.out _; (with_reducible repeat (first | refine blk_drewN ?_ _ | refine blk_drew ?_ | refine blk_alloc ?_ _)); refine blk_far ?_ NB266_267.out _; (with_reducible repeat (first | refine blk_drewN ?_ _ | refine blk_drew ?_ | refine blk_alloc ?_ _)); refine blk_far ?_ NB266_267.out _; (with_reducible repeat (first | refine blk_drewN ?_ _ | refine blk_drew ?_ | refine blk_alloc ?_ _)); refine blk_far ?_ NB266_267.out _; (with_reducible repeat (first | refine blk_drewN ?_ _ | refine blk_drew ?_ | refine blk_alloc ?_ _)); refine blk_put (cs := #[.int .i64 t288, .int .i64 t289, .string (⟨#[]⟩ : ByteArray)]) ?_ 2 _ rfl; (with_reducible repeat (first | refine blk_drewN ?_ _ | refine blk_drew ?_ | refine blk_alloc ?_ _)); refine blk_put (cs := #[.int .i64 t288, .int .i64 0, .string (⟨#[]⟩ : ByteArray)]) ?_ 1 _ rfl; (with_reducible repeat (first | refine blk_drewN ?_ _ | refine blk_drew ?_ | refine blk_alloc ?_ _)); refine blk_put (cs := #[.int .i64 0, .int .i64 0, .string (⟨#[]⟩ : ByteArray)]) ?_ 0 _ rfl; (with_reducible repeat (first | refine blk_drewN ?_ _ | refine blk_drew ?_ | refine blk_alloc ?_ _)); exact BK266.out) Try.underlying25 rfl (by kernel_rfl) (.cell gb267 38 #[.int .i64 (wrap64 (8 * t269)), .int .i64 (wrap64 (8 * t272)), .int .i64 (wrap64 (8 + (wrap64 (8 * t275)))), .int .i64 (wrap64 (8 + (wrap64 (8 * t278))))] (0, 0) _ rfl (by (with_reducible repeat (first | refine blk_drewN ?_ _ | refine blk_drew ?_ | refine blk_alloc ?_ _)); refine blk_far ?_ NB267_268.out _; (with_reducible repeat (first | refine blk_drewN ?_ _ | refine blk_drew ?_ | refine blk_alloc ?_ _)); refine blk_far ?_ NB267_268.out _; (with_reducible repeat (first | refine blk_drewN ?_ _ | refine blk_drew ?_ | refine blk_alloc ?_ _)); refine blk_far ?_ NB267_268.out _; (with_reducible repeat (first | refine blk_drewN ?_ _ | refine blk_drew ?_ | refine blk_alloc ?_ _)); refine blk_far ?_ NB267_268.out _; (with_reducible repeat (first | refine blk_drewN ?_ _ | refine blk_drew ?_ | refine blk_alloc ?_ _)); refine blk_put (cs := #[.int .i64 (wrap64 (8 * t269)), .int .i64 (wrap64 (8 * t272)), .int .i64 (wrap64 (8 + (wrap64 (8 * t275)))), .int .i64 0]) ?_ 3 _ rfl; (with_reducible repeat (first | refine blk_drewN ?_ _ | refine blk_drew ?_ | refine blk_alloc ?_ _)); refine blk_put (cs := #[.int .i64 (wrap64 (8 * t269)), .int .i64 (wrap64 (8 * t272)), .int .i64 0, .int .i64 0]) ?_ 2 _ rfl; (with_reducible repeat (first | refine blk_drewN ?_ _ | refine blk_drew ?_ | refine blk_alloc ?_ _)); refine blk_put (cs := #[.int .i64 (wrap64 (8 * t269)), .int .i64 0, .int .i64 0, .int .i64 0]) ?_ 1 _ rfl; (with_reducible repeat (first | refine blk_drewN ?_ _ | refine blk_drew ?_ | refine blk_alloc ?_ _)); refine blk_put (cs := #[.int .i64 0, .int .i64 0, .int .i64 0, .int .i64 0]) ?_ 0 _ rfl; (with_reducible repeat (first | refine blk_drewN ?_ _ | refine blk_drew ?_ | refine blk_alloc ?_ _)); refine blk_far ?_ NB267_266.out _; (with_reducible repeat (first | refine blk_drewN ?_ _ | refine blk_drew ?_ | refine blk_alloc ?_ _)); refine blk_far ?_ NB267_266.out _; (with_reducible repeat (first | refine blk_drewN ?_ _ | refine blk_drew ?_ | refine blk_alloc ?_ _)); refine blk_far ?_ NB267_266.out _; (with_reducible repeat (first | refine blk_drewN ?_ _ | refine blk_drew ?_ | refine blk_alloc ?_ _)); exact BK267.out) Try.underlying38 rfl (by kernel_rfl) (.cell gb268 50 #[.bool t294, .int .i64 t295, .bool t296, .bool t297] (0, 0) _ rfl (by (with_reducible repeat (first | refine blk_drewN ?_ _ | refine blk_drew ?_ | refine blk_alloc ?_ _)); refine blk_put (cs := #[.bool t294, .int .i64 t295, .bool t296, .bool false]) ?_ 3 _ rfl; (with_reducible repeat (first | refine blk_drewN ?_ _ | refine blk_drew ?_ | refine blk_alloc ?_ _)); refine blk_put (cs := #[.bool t294, .int .i64 t295, .bool false, .bool false]) ?_ 2 _ rfl; (with_reducible repeat (first | refine blk_drewN ?_ _ | refine blk_drew ?_ | refine blk_alloc ?_ _)); refine blk_put (cs := #[.bool t294, .int .i64 0, .bool false, .bool false]) ?_ 1 _ rfl; (with_reducible repeat (first | refine blk_drewN ?_ _ | refine blk_drew ?_ | refine blk_alloc ?_ _)); refine blk_put (cs := #[.bool false, .int .i64 0, .bool false, .bool false]) ?_ 0 _ rfl; (with_reducible repeat (first | refine blk_drewN ?_ _ | refine blk_drew ?_ | refine blk_alloc ?_ _)); refine blk_far ?_ NB268_267.out _; (with_reducible repeat (first | refine blk_drewN ?_ _ | refine blk_drew ?_ | refine blk_alloc ?_ _)); refine blk_far ?_ NB268_267.out _; (with_reducible repeat (first | refine blk_drewN ?_ _ | refine blk_drew ?_ | refine blk_alloc ?_ _)); refine blk_far ?_ NB268_267.out _; (with_reducible repeat (first | refine blk_drewN ?_ _ | refine blk_drew ?_ | refine blk_alloc ?_ _)); refine blk_far ?_ NB268_267.out _; (with_reducible repeat (first | refine blk_drewN ?_ _ | refine blk_drew ?_ | refine blk_alloc ?_ _)); refine blk_far ?_ NB268_266.out _; (with_reducible repeat (first | refine blk_drewN ?_ _ | refine blk_drew ?_ | refine blk_alloc ?_ _)); refine blk_far ?_ NB268_266.out _; (with_reducible repeat (first | refine blk_drewN ?_ _ | refine blk_drew ?_ | refine blk_alloc ?_ _)); refine blk_far ?_ NB268_266.out _; (with_reducible repeat (first | refine blk_drewN ?_ _ | refine blk_drew ?_ | refine blk_alloc ?_ _)); exact BK268.out) Try.underlying50 rfl (by kernel_rfl) (.tmp (.tmp .nil)))))) rfl ?_
 exact ⟨_, by first | rfl | (simp [errW_none, errW_some] <;> rfl) | (simp [*, errW_none, errW_some] <;> rfl), by (with_reducible repeat (first | apply Kd.S_alloc | apply Kd.S_drewN | apply Kd.S_drew)); exact Kd.S_mono (Kd.S_far (p := ⟨gb268, 3, none⟩) (Kd.S_far (p := ⟨gb268, 2, none⟩) (Kd.S_far (p := ⟨gb268, 1, none⟩) (Kd.S_far (p := ⟨gb268, 0, none⟩) (Kd.S_far (p := ⟨gb267, 3, none⟩) (Kd.S_far (p := ⟨gb267, 2, none⟩) (Kd.S_far (p := ⟨gb267, 1, none⟩) (Kd.S_far (p := ⟨gb267, 0, none⟩) (Kd.S_far (p := ⟨gb266, 2, none⟩) (Kd.S_far (p := ⟨gb266, 1, none⟩) (Kd.S_far (p := ⟨gb266, 0, none⟩) (Kd.S_types (Kd.S_types (Kd.S_types HO306.out BK266.out (by decide)) BK267.out (by decide)) BK268.out (by decide)) (fun _ hk => hk.1.1.2) (.int .i64 t288)) (fun _ hk => hk.1.1.2) (.int .i64 t289)) (fun _ hk => hk.1.1.2) (.string t290)) (fun _ hk => hk.1.2) (.int .i64 (wrap64 (8 * t269)))) (fun _ hk => hk.1.2) (.int .i64 (wrap64 (8 * t272)))) (fun _ hk => hk.1.2) (.int .i64 (wrap64 (8 + (wrap64 (8 * t275)))))) (fun _ hk => hk.1.2) (.int .i64 (wrap64 (8 + (wrap64 (8 * t278)))))) (fun _ hk => hk.2) (.bool t294)) (fun _ hk => hk.2) (.int .i64 t295)) (fun _ hk => hk.2) (.bool t296)) (fun _ hk => hk.2) (.bool t297)) (fun _ hk => trivial), by repeat (first | (with_reducible first | exact HI0.out | apply IsS116.alloc | apply IsS116.drewN | apply IsS116.drew | apply IsS116.set_1 | apply IsS116.set_2 | refine IsS116.far ?_ NB0_266.out _ | refine IsS116.far ?_ NB0_267.out _ | refine IsS116.far ?_ NB0_268.out _ | refine IsS116.far ?_ NB0_281.out _ | refine IsS116.far ?_ NB0_293.out _ | refine IsS116.far ?_ NB0_300.out _) | exact HI0.out), by repeat (first | (with_reducible first | exact HB.out | apply below_alloc | apply pw_below_drewN | apply below_drew1 | refine below_set ?_ (IsS116.ge HI0.out) | refine below_set ?_ GE266.out | refine below_set ?_ GE267.out | refine below_set ?_ GE268.out | refine below_set ?_ GE281.out | refine below_set ?_ GE293.out | refine below_set ?_ GE300.out) | exact HB.out), by repeat (first | (with_reducible first | exact HK.out | apply KeepBut.set_ | apply keep_drewN | apply keep_drew | apply keep_alloc | refine keep_far ?_ GW266.out _ | refine keep_far ?_ GW267.out _ | refine keep_far ?_ GW268.out _ | refine keep_far ?_ GW281.out _ | refine keep_far ?_ GW293.out _ | refine keep_far ?_ GW300.out _) | exact HK.out)⟩

end Go.Proofs.Ytnaccgommclhaaa.QFnSkips
