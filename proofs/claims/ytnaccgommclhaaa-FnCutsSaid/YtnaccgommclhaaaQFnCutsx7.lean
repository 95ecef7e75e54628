/- What the law reaches, as plain functions, each with the proof that its call comes to its answer: written by a program for this claim. -/
import Derived.Test.YtnaccgommclhaaaQFnCutsx0
import Derived.Test.YtnaccgommclhaaaQFnCutsx1
import Derived.Test.YtnaccgommclhaaaQFnCutsx2
import Derived.Test.YtnaccgommclhaaaQFnCutsx4
import Derived.Test.YtnaccgommclhaaaQFnCutsx5
import Derived.Test.YtnaccgommclhaaaQFnCutsx6
namespace Go.Proofs.Ytnaccgommclhaaa.QFnCuts
open Go.RowKit Go.Proofs.YtnaccgommclhaaaW.PrintWords Go.Proofs.YtnaccgommclhaaaW.PrintLast Go.Proofs.YtnaccgommclhaaaW.PrintMore Go.Proofs.YtnaccgommclhaaaV
attribute [local go_sem] max2_int min2_int max_two min_two max_three min_three max_four min_four   -- for this text's walks alone
set_option linter.unusedVariables false
set_option linter.unusedSimpArgs false

attribute [local go_sem high] eqA25
abbrev Y : Bool := true
abbrev Z : Bool := false
/-! ### laws_FnCuts: function 4 -/
mutual
def laws_FnCuts.j0 : Nat → Bool → Bool → Bool → Int → Int → Bool → Int → Int → ByteArray → Int → Int → ByteArray → Int → Int → ByteArray → Int → Int → ByteArray → Int → Int → ByteArray → Option (Bool)
 | 0, _, _, _, _, _, _, _, _, _, _, _, _, _, _, _, _, _, _, _, _, _ => none
 | k + 1, x8, x10, x12, x13, x14, x15, x288000, x288001, x288002, x289000, x289001, x289002, x302000, x302001, x302002, x307000, x307001, x307002, x312000, x312001, x312002 => if 0 ≤ (wrap64 ((wrap64 (x14 * x288000)) + x13)) then (if (wrap64 ((wrap64 (x14 * x288000)) + x13)) < (x288002.size : Int) then (if x15 = true then (if (wrap64 ((wrap64 (x14 * x288000)) + x13)) < (x289002.size : Int) then (laws_FnCuts.j1 k x8 x10 x12 x13 x14 (wrap64 (bt x289002 (wrap64 ((wrap64 (x14 * x288000)) + x13)))) x288000 x288001 x288002 x289000 x289001 x289002 x302000 x302001 x302002 x307000 x307001 x307002 x312000 x312001 x312002) else (none)) else (laws_FnCuts.j1 k x8 x10 x12 x13 x14 (wrap64 (bt x288002 (wrap64 ((wrap64 (x14 * x288000)) + x13)))) x288000 x288001 x288002 x289000 x289001 x289002 x302000 x302001 x302002 x307000 x307001 x307002 x312000 x312001 x312002)) else (none)) else (none)
def laws_FnCuts.j1 : Nat → Bool → Bool → Bool → Int → Int → Int → Int → Int → ByteArray → Int → Int → ByteArray → Int → Int → ByteArray → Int → Int → ByteArray → Int → Int → ByteArray → Option (Bool)
 | 0, _, _, _, _, _, _, _, _, _, _, _, _, _, _, _, _, _, _, _, _, _ => none
 | k + 1, x8, x10, x12, x13, x14, x16, x288000, x288001, x288002, x289000, x289001, x289002, x302000, x302001, x302002, x307000, x307001, x307002, x312000, x312001, x312002 => if x8 = true then (if x10 = true then (if x12 = true then (if (x312000 == x302000 && (x312001 == x302001 && (x312002.toList == x302002.toList))) = true then ((impl_DotAt.f x307000 x307001 x307002 x13 x14).bind fun t314 => (if t314 = x16 then ((impl_Apart.f k x288000 x288001 x288002 x289000 x289001 x289002).bind fun t315 => ((impl_Apart.f k x289000 x289001 x289002 x288000 x288001 x288002).bind fun t316 => (if t315 = t316 then ((impl_Apart.f k x288000 x288001 x288002 x289000 x289001 x289002).bind fun t317 => (if ((t317 == 0) == (x288000 == x289000 && (x288001 == x289001 && (x288002.toList == x289002.toList)))) = true then ((impl_Apart.f k x288000 x288001 x288002 x289000 x289001 x289002).bind fun t318 => ((impl_Apart.f k x307000 x307001 x307002 x289000 x289001 x289002).bind fun t319 => (if t318 ≥ t319 then ((impl_Apart.f k x288000 x288001 x288002 x288000 x288001 x288002).bind fun t320 => (some (t320 == 0))) else (some false)))) else (some false))) else (some false)))) else (some false))) else (some false)) else (some false)) else (some false)) else (some false)
end
def laws_FnCuts.f (k : Nat) (l0 : List Int) : Option (Bool) := (laws_big.f l0).bind fun t280 => (if t280 = true then (some true) else ((spec_DrawPics.f k l0).bind fun bt281 => ((spec_DrawPlaces.f k l0).bind fun t289 => (if 0 < (t289.length : Int) then (if bt281.2.2.2.1 = 0 then (none) else (if 1 < (t289.length : Int) then (if bt281.2.2.2.2.1 = 0 then (none) else (if 2 < (t289.length : Int) then (if (wrap64 (bt281.2.2.2.1 - (Int.tmod (rd t289 0) bt281.2.2.2.1))) = 0 then (none) else (if 3 < (t289.length : Int) then (if (wrap64 (bt281.2.2.2.2.1 - (Int.tmod (rd t289 1) bt281.2.2.2.2.1))) = 0 then (none) else ((impl_CutOf.f k bt281.2.2.2.1 bt281.2.2.2.2.1 bt281.2.2.2.2.2 (Int.tmod (rd t289 0) bt281.2.2.2.1) (Int.tmod (rd t289 1) bt281.2.2.2.2.1) (wrap64 (1 + (Int.tmod (rd t289 2) (wrap64 (bt281.2.2.2.1 - (Int.tmod (rd t289 0) bt281.2.2.2.1)))))) (wrap64 (1 + (Int.tmod (rd t289 3) (wrap64 (bt281.2.2.2.2.1 - (Int.tmod (rd t289 1) bt281.2.2.2.2.1))))))).bind fun bt297 => ((impl_Pasted.f k bt281.1 bt281.2.1 bt281.2.2.1 bt297.1 bt297.2.1 bt297.2.2.1 (Int.tmod (rd t289 0) bt281.2.2.2.1) (Int.tmod (rd t289 1) bt281.2.2.2.2.1)).bind fun bt302 => ((impl_CutOf.f k bt302.1 bt302.2.1 bt302.2.2.1 (Int.tmod (rd t289 0) bt281.2.2.2.1) (Int.tmod (rd t289 1) bt281.2.2.2.2.1) (wrap64 (1 + (Int.tmod (rd t289 2) (wrap64 (bt281.2.2.2.1 - (Int.tmod (rd t289 0) bt281.2.2.2.1)))))) (wrap64 (1 + (Int.tmod (rd t289 3) (wrap64 (bt281.2.2.2.2.1 - (Int.tmod (rd t289 1) bt281.2.2.2.2.1))))))).bind fun bt307 => (if 4 < (t289.length : Int) then (if bt281.1 = 0 then (none) else (if 5 < (t289.length : Int) then (if bt281.2.1 = 0 then (none) else (if (Int.tmod (rd t289 4) bt281.1) ≥ (Int.tmod (rd t289 0) bt281.2.2.2.1) then (if (Int.tmod (rd t289 4) bt281.1) < (wrap64 ((Int.tmod (rd t289 0) bt281.2.2.2.1) + (wrap64 (1 + (Int.tmod (rd t289 2) (wrap64 (bt281.2.2.2.1 - (Int.tmod (rd t289 0) bt281.2.2.2.1)))))))) then (if (Int.tmod (rd t289 5) bt281.2.1) ≥ (Int.tmod (rd t289 1) bt281.2.2.2.2.1) then (laws_FnCuts.j0 k bt297.2.2.2 bt302.2.2.2 bt307.2.2.2 (Int.tmod (rd t289 4) bt281.1) (Int.tmod (rd t289 5) bt281.2.1) (decide ((Int.tmod (rd t289 5) bt281.2.1) < (wrap64 ((Int.tmod (rd t289 1) bt281.2.2.2.2.1) + (wrap64 (1 + (Int.tmod (rd t289 3) (wrap64 (bt281.2.2.2.2.1 - (Int.tmod (rd t289 1) bt281.2.2.2.2.1)))))))))) bt281.1 bt281.2.1 bt281.2.2.1 bt281.2.2.2.1 bt281.2.2.2.2.1 bt281.2.2.2.2.2 bt297.1 bt297.2.1 bt297.2.2.1 bt302.1 bt302.2.1 bt302.2.2.1 bt307.1 bt307.2.1 bt307.2.2.1) else (laws_FnCuts.j0 k bt297.2.2.2 bt302.2.2.2 bt307.2.2.2 (Int.tmod (rd t289 4) bt281.1) (Int.tmod (rd t289 5) bt281.2.1) false bt281.1 bt281.2.1 bt281.2.2.1 bt281.2.2.2.1 bt281.2.2.2.2.1 bt281.2.2.2.2.2 bt297.1 bt297.2.1 bt297.2.2.1 bt302.1 bt302.2.1 bt302.2.2.1 bt307.1 bt307.2.1 bt307.2.2.1)) else (laws_FnCuts.j0 k bt297.2.2.2 bt302.2.2.2 bt307.2.2.2 (Int.tmod (rd t289 4) bt281.1) (Int.tmod (rd t289 5) bt281.2.1) false bt281.1 bt281.2.1 bt281.2.2.1 bt281.2.2.2.1 bt281.2.2.2.2.1 bt281.2.2.2.2.2 bt297.1 bt297.2.1 bt297.2.2.1 bt302.1 bt302.2.1 bt302.2.2.1 bt307.1 bt307.2.1 bt307.2.2.1)) else (laws_FnCuts.j0 k bt297.2.2.2 bt302.2.2.2 bt307.2.2.2 (Int.tmod (rd t289 4) bt281.1) (Int.tmod (rd t289 5) bt281.2.1) false bt281.1 bt281.2.1 bt281.2.2.1 bt281.2.2.2.1 bt281.2.2.2.2.1 bt281.2.2.2.2.2 bt297.1 bt297.2.1 bt297.2.2.1 bt302.1 bt302.2.1 bt302.2.2.1 bt307.1 bt307.2.1 bt307.2.2.1))) else (none))) else (none)))))) else (none))) else (none))) else (none))) else (none)))))
theorem laws_FnCuts.mono_l : ∀ k, (∀ y0 y1 y2 y3 y4 y5 y6 y7 y8 y9 y10 y11 y12 y13 y14 y15 y16 y17 y18 y19 y20, LeO (laws_FnCuts.j0 k y0 y1 y2 y3 y4 y5 y6 y7 y8 y9 y10 y11 y12 y13 y14 y15 y16 y17 y18 y19 y20) (laws_FnCuts.j0 (k + 1) y0 y1 y2 y3 y4 y5 y6 y7 y8 y9 y10 y11 y12 y13 y14 y15 y16 y17 y18 y19 y20)) ∧ (∀ y0 y1 y2 y3 y4 y5 y6 y7 y8 y9 y10 y11 y12 y13 y14 y15 y16 y17 y18 y19 y20, LeO (laws_FnCuts.j1 k y0 y1 y2 y3 y4 y5 y6 y7 y8 y9 y10 y11 y12 y13 y14 y15 y16 y17 y18 y19 y20) (laws_FnCuts.j1 (k + 1) y0 y1 y2 y3 y4 y5 y6 y7 y8 y9 y10 y11 y12 y13 y14 y15 y16 y17 y18 y19 y20))
 | 0 => ⟨fun _ _ _ _ _ _ _ _ _ _ _ _ _ _ _ _ _ _ _ _ _ r h => by simp [laws_FnCuts.j0] at h, fun _ _ _ _ _ _ _ _ _ _ _ _ _ _ _ _ _ _ _ _ _ r h => by simp [laws_FnCuts.j1] at h⟩
 | k + 1 => by
  obtain ⟨ih0, ih1⟩ := laws_FnCuts.mono_l k
  refine ⟨?_, ?_⟩
  ·intro y0 y1 y2 y3 y4 y5 y6 y7 y8 y9 y10 y11 y12 y13 y14 y15 y16 y17 y18 y19 y20
   unfold laws_FnCuts.j0
   repeat' first
   | (with_reducible exact ih0 _ _ _ _ _ _ _ _ _ _ _ _ _ _ _ _ _ _ _ _ _)
   | (with_reducible exact ih1 _ _ _ _ _ _ _ _ _ _ _ _ _ _ _ _ _ _ _ _ _)
   | (with_reducible exact impl_Apart.mono _ _ _ _ _ _ _)
   | (with_reducible exact impl_CutOf.mono _ _ _ _ _ _ _ _)
   | (with_reducible exact impl_Pasted.mono _ _ _ _ _ _ _ _ _)
   | (with_reducible exact spec_DrawPics.mono _ _)
   | (with_reducible exact spec_DrawPlaces.mono _ _)
   | (with_reducible exact LeO.refl _)
   | (with_reducible exact LeO.none _)
   | (with_reducible refine LeO.ite ?_ ?_)
   | (with_reducible refine LeO.bind ?_ (fun _ => ?_))
   | exact ih0 _ _ _ _ _ _ _ _ _ _ _ _ _ _ _ _ _ _ _ _ _
   | exact ih1 _ _ _ _ _ _ _ _ _ _ _ _ _ _ _ _ _ _ _ _ _
   | exact impl_Apart.mono _ _ _ _ _ _ _
   | exact impl_CutOf.mono _ _ _ _ _ _ _ _
   | exact impl_Pasted.mono _ _ _ _ _ _ _ _ _
   | exact spec_DrawPics.mono _ _
   | exact spec_DrawPlaces.mono _ _
   | exact LeO.none _
   | refine LeO.ite ?_ ?_
   | refine LeO.bind ?_ (fun _ => ?_)
  ·intro y0 y1 y2 y3 y4 y5 y6 y7 y8 y9 y10 y11 y12 y13 y14 y15 y16 y17 y18 y19 y20
   unfold laws_FnCuts.j1
   repeat' first
   | (with_reducible exact ih0 _ _ _ _ _ _ _ _ _ _ _ _ _ _ _ _ _ _ _ _ _)
   | (with_reducible exact ih1 _ _ _ _ _ _ _ _ _ _ _ _ _ _ _ _ _ _ _ _ _)
   | (with_reducible exact impl_Apart.mono _ _ _ _ _ _ _)
   | (with_reducible exact impl_CutOf.mono _ _ _ _ _ _ _ _)
   | (with_reducible exact impl_Pasted.mono _ _ _ _ _ _ _ _ _)
   | (with_reducible exact spec_DrawPics.mono _ _)
   | (with_reducible exact spec_DrawPlaces.mono _ _)
   | (with_reducible exact LeO.refl _)
   | (with_reducible exact LeO.none _)
   | (with_reducible refine LeO.ite ?_ ?_)
   | (with_reducible refine LeO.bind ?_ (fun _ => ?_))
   | exact ih0 _ _ _ _ _ _ _ _ _ _ _ _ _ _ _ _ _ _ _ _ _
   | exact ih1 _ _ _ _ _ _ _ _ _ _ _ _ _ _ _ _ _ _ _ _ _
   | exact impl_Apart.mono _ _ _ _ _ _ _
   | exact impl_CutOf.mono _ _ _ _ _ _ _ _
   | exact impl_Pasted.mono _ _ _ _ _ _ _ _ _
   | exact spec_DrawPics.mono _ _
   | exact spec_DrawPlaces.mono _ _
   | exact LeO.none _
   | refine LeO.ite ?_ ?_
   | refine LeO.bind ?_ (fun _ => ?_)
theorem laws_FnCuts.mono : ∀ a0 k, LeO (laws_FnCuts.f k a0) (laws_FnCuts.f (k + 1) a0) := by
 intro a0 k
 obtain ⟨ih0, ih1⟩ := laws_FnCuts.mono_l k
 unfold laws_FnCuts.f
 repeat' first
   | (with_reducible exact ih0 _ _ _ _ _ _ _ _ _ _ _ _ _ _ _ _ _ _ _ _ _)
   | (with_reducible exact ih1 _ _ _ _ _ _ _ _ _ _ _ _ _ _ _ _ _ _ _ _ _)
   | (with_reducible exact impl_Apart.mono _ _ _ _ _ _ _)
   | (with_reducible exact impl_CutOf.mono _ _ _ _ _ _ _ _)
   | (with_reducible exact impl_Pasted.mono _ _ _ _ _ _ _ _ _)
   | (with_reducible exact spec_DrawPics.mono _ _)
   | (with_reducible exact spec_DrawPlaces.mono _ _)
   | (with_reducible exact LeO.refl _)
   | (with_reducible exact LeO.none _)
   | (with_reducible refine LeO.ite ?_ ?_)
   | (with_reducible refine LeO.bind ?_ (fun _ => ?_))
   | exact ih0 _ _ _ _ _ _ _ _ _ _ _ _ _ _ _ _ _ _ _ _ _
   | exact ih1 _ _ _ _ _ _ _ _ _ _ _ _ _ _ _ _ _ _ _ _ _
   | exact impl_Apart.mono _ _ _ _ _ _ _
   | exact impl_CutOf.mono _ _ _ _ _ _ _ _
   | exact impl_Pasted.mono _ _ _ _ _ _ _ _ _
   | exact spec_DrawPics.mono _ _
   | exact spec_DrawPlaces.mono _ _
   | exact LeO.none _
   | refine LeO.ite ?_ ?_
   | refine LeO.bind ?_ (fun _ => ?_)
def laws_FnCuts.T5 : Bool × List (List Nat × List Nat) := (true, [([], []), ([0], [0]), ([1], [1]), ([], []), ([3], [3]), ([2, 4], [2, 4]), ([], []), ([6], [6]), ([7], [7]), ([], []), ([9], [9]), ([8, 10], [8, 10]), ([5, 11], [5, 11]), ([], []), ([13, 12, 0, 1, 2, 3, 4, 5, 6, 7, 8, 9, 10, 11, 12, 13], [12, 13])])
def laws_FnCuts.B5 : List Nat := [0, 1, 3, 0, 8, 31, 0, 64, 192, 0, 512, 1984, 4095, 0, 16383]
theorem laws_FnCuts.tab5 : rtab .any (opsOf Try.f4 5) = laws_FnCuts.T5 := by kernel_rfl
theorem laws_FnCuts.bits5 : waitsOk laws_FnCuts.T5.2 laws_FnCuts.B5 = true := by kernel_rfl
def laws_FnCuts.T6 : Bool × List (List Nat × List Nat) := (true, [([], []), ([0], [0]), ([1], [1]), ([], []), ([3], [3]), ([], []), ([5], [5]), ([4, 6], [4, 6]), ([2, 7], [2, 7]), ([8], [8]), ([0, 1, 2, 3, 4, 5, 6, 7, 8, 9], []), ([10, 9, 0, 1, 2, 3, 4, 5, 6, 7, 8, 9], [9, 10])])
def laws_FnCuts.B6 : List Nat := [0, 1, 3, 0, 8, 0, 32, 120, 255, 511, 1023, 2047]
theorem laws_FnCuts.tab6 : rtab .any (opsOf Try.f4 6) = laws_FnCuts.T6 := by kernel_rfl
theorem laws_FnCuts.bits6 : waitsOk laws_FnCuts.T6.2 laws_FnCuts.B6 = true := by kernel_rfl
def laws_FnCuts.T7 : Bool × List (List Nat × List Nat) := (true, [([], []), ([0], [0]), ([1], [1]), ([], []), ([3], [3]), ([], []), ([5], [5]), ([4, 6], [4, 6]), ([2, 7], [2, 7]), ([8], [8]), ([0, 1, 2, 3, 4, 5, 6, 7, 8, 9], []), ([10, 9, 0, 1, 2, 3, 4, 5, 6, 7, 8, 9], [9, 10])])
def laws_FnCuts.B7 : List Nat := [0, 1, 3, 0, 8, 0, 32, 120, 255, 511, 1023, 2047]
theorem laws_FnCuts.tab7 : rtab .any (opsOf Try.f4 7) = laws_FnCuts.T7 := by kernel_rfl
theorem laws_FnCuts.bits7 : waitsOk laws_FnCuts.T7.2 laws_FnCuts.B7 = true := by kernel_rfl
def laws_FnCuts.T17 : Bool × List (List Nat × List Nat) := (true, [([], []), ([0], [0]), ([1], [1]), ([1, 2], [1, 2]), ([3, 1], [3]), ([4], [4]), ([4, 5], [4, 5]), ([6, 4], [6]), ([7], [7]), ([7], [7]), ([8, 9, 7], [7, 8, 9]), ([7, 10], [7, 10]), ([11, 7], [11]), ([12], [12]), ([12], [12]), ([12], [12]), ([13, 14, 15, 12, 12], [12, 13, 14, 15]), ([12], [12]), ([16, 17, 12], [12, 16, 17]), ([12, 18], [12, 18]), ([19, 16], [19]), ([20], [20]), ([20], [20]), ([21, 22, 20, 20], [20, 21, 22]), ([20], [20]), ([20], [20]), ([24, 25, 23, 20], [20, 24, 25]), ([23, 26, 20], [20, 23, 26]), ([20, 27], [20, 27]), ([28, 26], [28]), ([29], [29]), ([29], [29]), ([30, 31, 29, 29], [29, 30, 31]), ([32, 29], [29, 32]), ([29], [29]), ([29], [29]), ([34, 35, 29], [29, 34, 35]), ([33, 36, 29], [29, 33, 36]), ([29, 37], [29, 37]), ([38, 32], [38]), ([39], [39]), ([39], [39]), ([40, 41, 39, 39], [39, 40, 41]), ([39], [39]), ([39], [39]), ([43, 44, 42, 39], [39, 43, 44]), ([42, 45, 39], [39, 42, 45]), ([39, 46], [39, 46]), ([47, 45], [47]), ([48], [48]), ([48], [48]), ([49, 50, 48, 48], [48, 49, 50]), ([51, 48], [48, 51]), ([48, 52], [48, 52]), ([53, 51, 0, 1, 2, 3, 4, 5, 6, 7, 8, 9, 10, 11, 12, 13, 14, 15, 16, 17, 18, 19, 20, 21, 22, 23, 24, 25, 26, 27, 28, 29, 30, 31, 32, 33, 34, 35, 36, 37, 38, 39, 40, 41, 42, 43, 44, 45, 46, 47, 48, 49, 50, 51, 52, 53], [53])])
def laws_FnCuts.B17 : List Nat := [0, 1, 3, 7, 15, 31, 63, 127, 255, 255, 1023, 2047, 4095, 8191, 8191, 8191, 65535, 8191, 262143, 524287, 1048575, 2097151, 2097151, 8388607, 2097151, 2097151, 67108863, 134217727, 268435455, 536870911, 1073741823, 1073741823, 4294967295, 8589934591, 1073741823, 1073741823, 52613349375, 137438953471, 274877906943, 549755813887, 1099511627775, 1099511627775, 4398046511103, 1099511627775, 1099511627775, 35184372088831, 70368744177663, 140737488355327, 281474976710655, 562949953421311, 562949953421311, 2251799813685247, 4503599627370495, 9007199254740991, 18014398509481983]
theorem laws_FnCuts.tab17 : rtab .any (opsOf Try.f4 17) = laws_FnCuts.T17 := by kernel_rfl
theorem laws_FnCuts.bits17 : waitsOk laws_FnCuts.T17.2 laws_FnCuts.B17 = true := by kernel_rfl
set_option maxHeartbeats 8000000 in
set_option maxRecDepth 100000 in
theorem laws_FnCuts.calls (k : Nat) (A0 : Option Addr) (c0 : Nat) (l0 : List Int) (w : World) (hr0 : Kd.C (Kd.int .u8) w A0 l0.length l0) (hc0 : l0.length ≤ c0) (h : laws_FnCuts.f k l0 = some true) :
  Calls Try.prog 4 #[.slice A0 l0.length c0] w fun e w' => e = .returned (.bool true) ∧ Below w.heap.size w w' := by
 have hu25 := Try.underlying25
 have hu38 := Try.underlying38
 have HR0 := Aside0.mk hr0
 have HC0 := Aside0.mk hc0
 clear hr0 hc0
 have HB := Aside0.mk (Below.refl w.heap.size w)
 have H : ((laws_big.f l0).bind fun t280 => (if t280 = true then (some true) else ((spec_DrawPics.f k l0).bind fun bt281 => ((spec_DrawPlaces.f k l0).bind fun t289 => (if 0 < (t289.length : Int) then (if bt281.2.2.2.1 = 0 then (none) else (if 1 < (t289.length : Int) then (if bt281.2.2.2.2.1 = 0 then (none) else (if 2 < (t289.length : Int) then (if (wrap64 (bt281.2.2.2.1 - (Int.tmod (rd t289 0) bt281.2.2.2.1))) = 0 then (none) else (if 3 < (t289.length : Int) then (if (wrap64 (bt281.2.2.2.2.1 - (Int.tmod (rd t289 1) bt281.2.2.2.2.1))) = 0 then (none) else ((impl_CutOf.f k bt281.2.2.2.1 bt281.2.2.2.2.1 bt281.2.2.2.2.2 (Int.tmod (rd t289 0) bt281.2.2.2.1) (Int.tmod (rd t289 1) bt281.2.2.2.2.1) (wrap64 (1 + (Int.tmod (rd t289 2) (wrap64 (bt281.2.2.2.1 - (Int.tmod (rd t289 0) bt281.2.2.2.1)))))) (wrap64 (1 + (Int.tmod (rd t289 3) (wrap64 (bt281.2.2.2.2.1 - (Int.tmod (rd t289 1) bt281.2.2.2.2.1))))))).bind fun bt297 => ((impl_Pasted.f k bt281.1 bt281.2.1 bt281.2.2.1 bt297.1 bt297.2.1 bt297.2.2.1 (Int.tmod (rd t289 0) bt281.2.2.2.1) (Int.tmod (rd t289 1) bt281.2.2.2.2.1)).bind fun bt302 => ((impl_CutOf.f k bt302.1 bt302.2.1 bt302.2.2.1 (Int.tmod (rd t289 0) bt281.2.2.2.1) (Int.tmod (rd t289 1) bt281.2.2.2.2.1) (wrap64 (1 + (Int.tmod (rd t289 2) (wrap64 (bt281.2.2.2.1 - (Int.tmod (rd t289 0) bt281.2.2.2.1)))))) (wrap64 (1 + (Int.tmod (rd t289 3) (wrap64 (bt281.2.2.2.2.1 - (Int.tmod (rd t289 1) bt281.2.2.2.2.1))))))).bind fun bt307 => (if 4 < (t289.length : Int) then (if bt281.1 = 0 then (none) else (if 5 < (t289.length : Int) then (if bt281.2.1 = 0 then (none) else (if (Int.tmod (rd t289 4) bt281.1) ≥ (Int.tmod (rd t289 0) bt281.2.2.2.1) then (if (Int.tmod (rd t289 4) bt281.1) < (wrap64 ((Int.tmod (rd t289 0) bt281.2.2.2.1) + (wrap64 (1 + (Int.tmod (rd t289 2) (wrap64 (bt281.2.2.2.1 - (Int.tmod (rd t289 0) bt281.2.2.2.1)))))))) then (if (Int.tmod (rd t289 5) bt281.2.1) ≥ (Int.tmod (rd t289 1) bt281.2.2.2.2.1) then (laws_FnCuts.j0 k bt297.2.2.2 bt302.2.2.2 bt307.2.2.2 (Int.tmod (rd t289 4) bt281.1) (Int.tmod (rd t289 5) bt281.2.1) (decide ((Int.tmod (rd t289 5) bt281.2.1) < (wrap64 ((Int.tmod (rd t289 1) bt281.2.2.2.2.1) + (wrap64 (1 + (Int.tmod (rd t289 3) (wrap64 (bt281.2.2.2.2.1 - (Int.tmod (rd t289 1) bt281.2.2.2.2.1)))))))))) bt281.1 bt281.2.1 bt281.2.2.1 bt281.2.2.2.1 bt281.2.2.2.2.1 bt281.2.2.2.2.2 bt297.1 bt297.2.1 bt297.2.2.1 bt302.1 bt302.2.1 bt302.2.2.1 bt307.1 bt307.2.1 bt307.2.2.1) else (laws_FnCuts.j0 k bt297.2.2.2 bt302.2.2.2 bt307.2.2.2 (Int.tmod (rd t289 4) bt281.1) (Int.tmod (rd t289 5) bt281.2.1) false bt281.1 bt281.2.1 bt281.2.2.1 bt281.2.2.2.1 bt281.2.2.2.2.1 bt281.2.2.2.2.2 bt297.1 bt297.2.1 bt297.2.2.1 bt302.1 bt302.2.1 bt302.2.2.1 bt307.1 bt307.2.1 bt307.2.2.1)) else (laws_FnCuts.j0 k bt297.2.2.2 bt302.2.2.2 bt307.2.2.2 (Int.tmod (rd t289 4) bt281.1) (Int.tmod (rd t289 5) bt281.2.1) false bt281.1 bt281.2.1 bt281.2.2.1 bt281.2.2.2.1 bt281.2.2.2.2.1 bt281.2.2.2.2.2 bt297.1 bt297.2.1 bt297.2.2.1 bt302.1 bt302.2.1 bt302.2.2.1 bt307.1 bt307.2.1 bt307.2.2.1)) else (laws_FnCuts.j0 k bt297.2.2.2 bt302.2.2.2 bt307.2.2.2 (Int.tmod (rd t289 4) bt281.1) (Int.tmod (rd t289 5) bt281.2.1) false bt281.1 bt281.2.1 bt281.2.2.1 bt281.2.2.2.1 bt281.2.2.2.2.1 bt281.2.2.2.2.2 bt297.1 bt297.2.1 bt297.2.2.1 bt302.1 bt302.2.1 bt302.2.2.1 bt307.1 bt307.2.1 bt307.2.2.1))) else (none))) else (none)))))) else (none))) else (none))) else (none))) else (none)))))) = some true := h
 clear h
 replace H := Option.bind_eq_some_iff.mp H
 obtain ⟨t280, A20, H⟩ := H
 replace H : (if t280 = true then (some true) else ((spec_DrawPics.f k l0).bind fun bt281 => ((spec_DrawPlaces.f k l0).bind fun t289 => (if 0 < (t289.length : Int) then (if bt281.2.2.2.1 = 0 then (none) else (if 1 < (t289.length : Int) then (if bt281.2.2.2.2.1 = 0 then (none) else (if 2 < (t289.length : Int) then (if (wrap64 (bt281.2.2.2.1 - (Int.tmod (rd t289 0) bt281.2.2.2.1))) = 0 then (none) else (if 3 < (t289.length : Int) then (if (wrap64 (bt281.2.2.2.2.1 - (Int.tmod (rd t289 1) bt281.2.2.2.2.1))) = 0 then (none) else ((impl_CutOf.f k bt281.2.2.2.1 bt281.2.2.2.2.1 bt281.2.2.2.2.2 (Int.tmod (rd t289 0) bt281.2.2.2.1) (Int.tmod (rd t289 1) bt281.2.2.2.2.1) (wrap64 (1 + (Int.tmod (rd t289 2) (wrap64 (bt281.2.2.2.1 - (Int.tmod (rd t289 0) bt281.2.2.2.1)))))) (wrap64 (1 + (Int.tmod (rd t289 3) (wrap64 (bt281.2.2.2.2.1 - (Int.tmod (rd t289 1) bt281.2.2.2.2.1))))))).bind fun bt297 => ((impl_Pasted.f k bt281.1 bt281.2.1 bt281.2.2.1 bt297.1 bt297.2.1 bt297.2.2.1 (Int.tmod (rd t289 0) bt281.2.2.2.1) (Int.tmod (rd t289 1) bt281.2.2.2.2.1)).bind fun bt302 => ((impl_CutOf.f k bt302.1 bt302.2.1 bt302.2.2.1 (Int.tmod (rd t289 0) bt281.2.2.2.1) (Int.tmod (rd t289 1) bt281.2.2.2.2.1) (wrap64 (1 + (Int.tmod (rd t289 2) (wrap64 (bt281.2.2.2.1 - (Int.tmod (rd t289 0) bt281.2.2.2.1)))))) (wrap64 (1 + (Int.tmod (rd t289 3) (wrap64 (bt281.2.2.2.2.1 - (Int.tmod (rd t289 1) bt281.2.2.2.2.1))))))).bind fun bt307 => (if 4 < (t289.length : Int) then (if bt281.1 = 0 then (none) else (if 5 < (t289.length : Int) then (if bt281.2.1 = 0 then (none) else (if (Int.tmod (rd t289 4) bt281.1) ≥ (Int.tmod (rd t289 0) bt281.2.2.2.1) then (if (Int.tmod (rd t289 4) bt281.1) < (wrap64 ((Int.tmod (rd t289 0) bt281.2.2.2.1) + (wrap64 (1 + (Int.tmod (rd t289 2) (wrap64 (bt281.2.2.2.1 - (Int.tmod (rd t289 0) bt281.2.2.2.1)))))))) then (if (Int.tmod (rd t289 5) bt281.2.1) ≥ (Int.tmod (rd t289 1) bt281.2.2.2.2.1) then (laws_FnCuts.j0 k bt297.2.2.2 bt302.2.2.2 bt307.2.2.2 (Int.tmod (rd t289 4) bt281.1) (Int.tmod (rd t289 5) bt281.2.1) (decide ((Int.tmod (rd t289 5) bt281.2.1) < (wrap64 ((Int.tmod (rd t289 1) bt281.2.2.2.2.1) + (wrap64 (1 + (Int.tmod (rd t289 3) (wrap64 (bt281.2.2.2.2.1 - (Int.tmod (rd t289 1) bt281.2.2.2.2.1)))))))))) bt281.1 bt281.2.1 bt281.2.2.1 bt281.2.2.2.1 bt281.2.2.2.2.1 bt281.2.2.2.2.2 bt297.1 bt297.2.1 bt297.2.2.1 bt302.1 bt302.2.1 bt302.2.2.1 bt307.1 bt307.2.1 bt307.2.2.1) else (laws_FnCuts.j0 k bt297.2.2.2 bt302.2.2.2 bt307.2.2.2 (Int.tmod (rd t289 4) bt281.1) (Int.tmod (rd t289 5) bt281.2.1) false bt281.1 bt281.2.1 bt281.2.2.1 bt281.2.2.2.1 bt281.2.2.2.2.1 bt281.2.2.2.2.2 bt297.1 bt297.2.1 bt297.2.2.1 bt302.1 bt302.2.1 bt302.2.2.1 bt307.1 bt307.2.1 bt307.2.2.1)) else (laws_FnCuts.j0 k bt297.2.2.2 bt302.2.2.2 bt307.2.2.2 (Int.tmod (rd t289 4) bt281.1) (Int.tmod (rd t289 5) bt281.2.1) false bt281.1 bt281.2.1 bt281.2.2.1 bt281.2.2.2.1 bt281.2.2.2.2.1 bt281.2.2.2.2.2 bt297.1 bt297.2.1 bt297.2.2.1 bt302.1 bt302.2.1 bt302.2.2.1 bt307.1 bt307.2.1 bt307.2.2.1)) else (laws_FnCuts.j0 k bt297.2.2.2 bt302.2.2.2 bt307.2.2.2 (Int.tmod (rd t289 4) bt281.1) (Int.tmod (rd t289 5) bt281.2.1) false bt281.1 bt281.2.1 bt281.2.2.1 bt281.2.2.2.1 bt281.2.2.2.2.1 bt281.2.2.2.2.2 bt297.1 bt297.2.1 bt297.2.2.1 bt302.1 bt302.2.1 bt302.2.2.1 bt307.1 bt307.2.1 bt307.2.2.1))) else (none))) else (none)))))) else (none))) else (none))) else (none))) else (none))))) = some true := H
 have A2 := Aside0.mk A20
 clear A20
 by_cases c3 : t280 = true
 ·subst c3
  have H1 : (some true) = some true := rfl
  clear H
  have H := H1
  clear H1
  have hfin_ := Option.some.inj H
  go_enter Try.func4, Try.ntmps4
  go_wp2_with (first | ((with_reducible refine gate_callee (f := 14) rfl ?_); refine goesL_ (some 18) rfl rfl Try.func14 (by kernel_rfl) rfl #[.slice A0 l0.length c0] rfl (by (try simp only [List.map_toArray, List.map_cons, List.map_nil]); first | done | rfl | (simp only [List.length_drop, List.length_take]; rfl)) ?_; (with_reducible refine (laws_big.calls _ _ l0 true _ ?side1 ?side2 A2.out).mono ?_); (case side1 => repeat (first | exact HR0.out | (with_reducible refine Kd.C_alloc ?_ _) | (with_reducible refine Kd.C_drewN ?_ _) | (with_reducible refine Kd.C_drew ?_))); (case side2 => exact HC0.out); rintro e w' ⟨rfl, ⟨nd, rfl⟩⟩; refine ⟨_, rfl, ?_⟩))
  go_ret
  exact ⟨by first | rfl | (simp [errW_none, errW_some] <;> rfl) | (simp [*, errW_none, errW_some] <;> rfl), by repeat (first | (with_reducible first | exact HB.out | apply below_alloc | apply pw_below_drewN | apply below_drew1) | exact HB.out)⟩
 ·replace c3 := Bool.eq_false_iff.mpr c3
  subst c3
  have H1 : ((spec_DrawPics.f k l0).bind fun bt281 => ((spec_DrawPlaces.f k l0).bind fun t289 => (if 0 < (t289.length : Int) then (if bt281.2.2.2.1 = 0 then (none) else (if 1 < (t289.length : Int) then (if bt281.2.2.2.2.1 = 0 then (none) else (if 2 < (t289.length : Int) then (if (wrap64 (bt281.2.2.2.1 - (Int.tmod (rd t289 0) bt281.2.2.2.1))) = 0 then (none) else (if 3 < (t289.length : Int) then (if (wrap64 (bt281.2.2.2.2.1 - (Int.tmod (rd t289 1) bt281.2.2.2.2.1))) = 0 then (none) else ((impl_CutOf.f k bt281.2.2.2.1 bt281.2.2.2.2.1 bt281.2.2.2.2.2 (Int.tmod (rd t289 0) bt281.2.2.2.1) (Int.tmod (rd t289 1) bt281.2.2.2.2.1) (wrap64 (1 + (Int.tmod (rd t289 2) (wrap64 (bt281.2.2.2.1 - (Int.tmod (rd t289 0) bt281.2.2.2.1)))))) (wrap64 (1 + (Int.tmod (rd t289 3) (wrap64 (bt281.2.2.2.2.1 - (Int.tmod (rd t289 1) bt281.2.2.2.2.1))))))).bind fun bt297 => ((impl_Pasted.f k bt281.1 bt281.2.1 bt281.2.2.1 bt297.1 bt297.2.1 bt297.2.2.1 (Int.tmod (rd t289 0) bt281.2.2.2.1) (Int.tmod (rd t289 1) bt281.2.2.2.2.1)).bind fun bt302 => ((impl_CutOf.f k bt302.1 bt302.2.1 bt302.2.2.1 (Int.tmod (rd t289 0) bt281.2.2.2.1) (Int.tmod (rd t289 1) bt281.2.2.2.2.1) (wrap64 (1 + (Int.tmod (rd t289 2) (wrap64 (bt281.2.2.2.1 - (Int.tmod (rd t289 0) bt281.2.2.2.1)))))) (wrap64 (1 + (Int.tmod (rd t289 3) (wrap64 (bt281.2.2.2.2.1 - (Int.tmod (rd t289 1) bt281.2.2.2.2.1))))))).bind fun bt307 => (if 4 < (t289.length : Int) then (if bt281.1 = 0 then (none) else (if 5 < (t289.length : Int) then (if bt281.2.1 = 0 then (none) else (if (Int.tmod (rd t289 4) bt281.1) ≥ (Int.tmod (rd t289 0) bt281.2.2.2.1) then (if (Int.tmod (rd t289 4) bt281.1) < (wrap64 ((Int.tmod (rd t289 0) bt281.2.2.2.1) + (wrap64 (1 + (Int.tmod (rd t289 2) (wrap64 (bt281.2.2.2.1 - (Int.tmod (rd t289 0) bt281.2.2.2.1)))))))) then (if (Int.tmod (rd t289 5) bt281.2.1) ≥ (Int.tmod (rd t289 1) bt281.2.2.2.2.1) then (laws_FnCuts.j0 k bt297.2.2.2 bt302.2.2.2 bt307.2.2.2 (Int.tmod (rd t289 4) bt281.1) (Int.tmod (rd t289 5) bt281.2.1) (decide ((Int.tmod (rd t289 5) bt281.2.1) < (wrap64 ((Int.tmod (rd t289 1) bt281.2.2.2.2.1) + (wrap64 (1 + (Int.tmod (rd t289 3) (wrap64 (bt281.2.2.2.2.1 - (Int.tmod (rd t289 1) bt281.2.2.2.2.1)))))))))) bt281.1 bt281.2.1 bt281.2.2.1 bt281.2.2.2.1 bt281.2.2.2.2.1 bt281.2.2.2.2.2 bt297.1 bt297.2.1 bt297.2.2.1 bt302.1 bt302.2.1 bt302.2.2.1 bt307.1 bt307.2.1 bt307.2.2.1) else (laws_FnCuts.j0 k bt297.2.2.2 bt302.2.2.2 bt307.2.2.2 (Int.tmod (rd t289 4) bt281.1) (Int.tmod (rd t289 5) bt281.2.1) false bt281.1 bt281.2.1 bt281.2.2.1 bt281.2.2.2.1 bt281.2.2.2.2.1 bt281.2.2.2.2.2 bt297.1 bt297.2.1 bt297.2.2.1 bt302.1 bt302.2.1 bt302.2.2.1 bt307.1 bt307.2.1 bt307.2.2.1)) else (laws_FnCuts.j0 k bt297.2.2.2 bt302.2.2.2 bt307.2.2.2 (Int.tmod (rd t289 4) bt281.1) (Int.tmod (rd t289 5) bt281.2.1) false bt281.1 bt281.2.1 bt281.2.2.1 bt281.2.2.2.1 bt281.2.2.2.2.1 bt281.2.2.2.2.2 bt297.1 bt297.2.1 bt297.2.2.1 bt302.1 bt302.2.1 bt302.2.2.1 bt307.1 bt307.2.1 bt307.2.2.1)) else (laws_FnCuts.j0 k bt297.2.2.2 bt302.2.2.2 bt307.2.2.2 (Int.tmod (rd t289 4) bt281.1) (Int.tmod (rd t289 5) bt281.2.1) false bt281.1 bt281.2.1 bt281.2.2.1 bt281.2.2.2.1 bt281.2.2.2.2.1 bt281.2.2.2.2.2 bt297.1 bt297.2.1 bt297.2.2.1 bt302.1 bt302.2.1 bt302.2.2.1 bt307.1 bt307.2.1 bt307.2.2.1))) else (none))) else (none)))))) else (none))) else (none))) else (none))) else (none)))) = some true := by rw [if_neg (show ¬ (false = true) by decide)] at H; exact H
  clear H
  have H := H1
  clear H1
  replace H := Option.bind_eq_some_iff.mp H
  obtain ⟨⟨t281, t282, t283, t284, t285, t286⟩, A40, H⟩ := H
  replace H : ((spec_DrawPlaces.f k l0).bind fun t289 => (if 0 < (t289.length : Int) then (if t284 = 0 then (none) else (if 1 < (t289.length : Int) then (if t285 = 0 then (none) else (if 2 < (t289.length : Int) then (if (wrap64 (t284 - (Int.tmod (rd t289 0) t284))) = 0 then (none) else (if 3 < (t289.length : Int) then (if (wrap64 (t285 - (Int.tmod (rd t289 1) t285))) = 0 then (none) else ((impl_CutOf.f k t284 t285 t286 (Int.tmod (rd t289 0) t284) (Int.tmod (rd t289 1) t285) (wrap64 (1 + (Int.tmod (rd t289 2) (wrap64 (t284 - (Int.tmod (rd t289 0) t284)))))) (wrap64 (1 + (Int.tmod (rd t289 3) (wrap64 (t285 - (Int.tmod (rd t289 1) t285))))))).bind fun bt297 => ((impl_Pasted.f k t281 t282 t283 bt297.1 bt297.2.1 bt297.2.2.1 (Int.tmod (rd t289 0) t284) (Int.tmod (rd t289 1) t285)).bind fun bt302 => ((impl_CutOf.f k bt302.1 bt302.2.1 bt302.2.2.1 (Int.tmod (rd t289 0) t284) (Int.tmod (rd t289 1) t285) (wrap64 (1 + (Int.tmod (rd t289 2) (wrap64 (t284 - (Int.tmod (rd t289 0) t284)))))) (wrap64 (1 + (Int.tmod (rd t289 3) (wrap64 (t285 - (Int.tmod (rd t289 1) t285))))))).bind fun bt307 => (if 4 < (t289.length : Int) then (if t281 = 0 then (none) else (if 5 < (t289.length : Int) then (if t282 = 0 then (none) else (if (Int.tmod (rd t289 4) t281) ≥ (Int.tmod (rd t289 0) t284) then (if (Int.tmod (rd t289 4) t281) < (wrap64 ((Int.tmod (rd t289 0) t284) + (wrap64 (1 + (Int.tmod (rd t289 2) (wrap64 (t284 - (Int.tmod (rd t289 0) t284)))))))) then (if (Int.tmod (rd t289 5) t282) ≥ (Int.tmod (rd t289 1) t285) then (laws_FnCuts.j0 k bt297.2.2.2 bt302.2.2.2 bt307.2.2.2 (Int.tmod (rd t289 4) t281) (Int.tmod (rd t289 5) t282) (decide ((Int.tmod (rd t289 5) t282) < (wrap64 ((Int.tmod (rd t289 1) t285) + (wrap64 (1 + (Int.tmod (rd t289 3) (wrap64 (t285 - (Int.tmod (rd t289 1) t285)))))))))) t281 t282 t283 t284 t285 t286 bt297.1 bt297.2.1 bt297.2.2.1 bt302.1 bt302.2.1 bt302.2.2.1 bt307.1 bt307.2.1 bt307.2.2.1) else (laws_FnCuts.j0 k bt297.2.2.2 bt302.2.2.2 bt307.2.2.2 (Int.tmod (rd t289 4) t281) (Int.tmod (rd t289 5) t282) false t281 t282 t283 t284 t285 t286 bt297.1 bt297.2.1 bt297.2.2.1 bt302.1 bt302.2.1 bt302.2.2.1 bt307.1 bt307.2.1 bt307.2.2.1)) else (laws_FnCuts.j0 k bt297.2.2.2 bt302.2.2.2 bt307.2.2.2 (Int.tmod (rd t289 4) t281) (Int.tmod (rd t289 5) t282) false t281 t282 t283 t284 t285 t286 bt297.1 bt297.2.1 bt297.2.2.1 bt302.1 bt302.2.1 bt302.2.2.1 bt307.1 bt307.2.1 bt307.2.2.1)) else (laws_FnCuts.j0 k bt297.2.2.2 bt302.2.2.2 bt307.2.2.2 (Int.tmod (rd t289 4) t281) (Int.tmod (rd t289 5) t282) false t281 t282 t283 t284 t285 t286 bt297.1 bt297.2.1 bt297.2.2.1 bt302.1 bt302.2.1 bt302.2.2.1 bt307.1 bt307.2.1 bt307.2.2.1))) else (none))) else (none)))))) else (none))) else (none))) else (none))) else (none))) = some true := H
  have A4 := Aside0.mk A40
  clear A40
  replace H := Option.bind_eq_some_iff.mp H
  obtain ⟨t289, A50, H⟩ := H
  replace H : (if 0 < (t289.length : Int) then (if t284 = 0 then (none) else (if 1 < (t289.length : Int) then (if t285 = 0 then (none) else (if 2 < (t289.length : Int) then (if (wrap64 (t284 - (Int.tmod (rd t289 0) t284))) = 0 then (none) else (if 3 < (t289.length : Int) then (if (wrap64 (t285 - (Int.tmod (rd t289 1) t285))) = 0 then (none) else ((impl_CutOf.f k t284 t285 t286 (Int.tmod (rd t289 0) t284) (Int.tmod (rd t289 1) t285) (wrap64 (1 + (Int.tmod (rd t289 2) (wrap64 (t284 - (Int.tmod (rd t289 0) t284)))))) (wrap64 (1 + (Int.tmod (rd t289 3) (wrap64 (t285 - (Int.tmod (rd t289 1) t285))))))).bind fun bt297 => ((impl_Pasted.f k t281 t282 t283 bt297.1 bt297.2.1 bt297.2.2.1 (Int.tmod (rd t289 0) t284) (Int.tmod (rd t289 1) t285)).bind fun bt302 => ((impl_CutOf.f k bt302.1 bt302.2.1 bt302.2.2.1 (Int.tmod (rd t289 0) t284) (Int.tmod (rd t289 1) t285) (wrap64 (1 + (Int.tmod (rd t289 2) (wrap64 (t284 - (Int.tmod (rd t289 0) t284)))))) (wrap64 (1 + (Int.tmod (rd t289 3) (wrap64 (t285 - (Int.tmod (rd t289 1) t285))))))).bind fun bt307 => (if 4 < (t289.length : Int) then (if t281 = 0 then (none) else (if 5 < (t289.length : Int) then (if t282 = 0 then (none) else (if (Int.tmod (rd t289 4) t281) ≥ (Int.tmod (rd t289 0) t284) then (if (Int.tmod (rd t289 4) t281) < (wrap64 ((Int.tmod (rd t289 0) t284) + (wrap64 (1 + (Int.tmod (rd t289 2) (wrap64 (t284 - (Int.tmod (rd t289 0) t284)))))))) then (if (Int.tmod (rd t289 5) t282) ≥ (Int.tmod (rd t289 1) t285) then (laws_FnCuts.j0 k bt297.2.2.2 bt302.2.2.2 bt307.2.2.2 (Int.tmod (rd t289 4) t281) (Int.tmod (rd t289 5) t282) (decide ((Int.tmod (rd t289 5) t282) < (wrap64 ((Int.tmod (rd t289 1) t285) + (wrap64 (1 + (Int.tmod (rd t289 3) (wrap64 (t285 - (Int.tmod (rd t289 1) t285)))))))))) t281 t282 t283 t284 t285 t286 bt297.1 bt297.2.1 bt297.2.2.1 bt302.1 bt302.2.1 bt302.2.2.1 bt307.1 bt307.2.1 bt307.2.2.1) else (laws_FnCuts.j0 k bt297.2.2.2 bt302.2.2.2 bt307.2.2.2 (Int.tmod (rd t289 4) t281) (Int.tmod (rd t289 5) t282) false t281 t282 t283 t284 t285 t286 bt297.1 bt297.2.1 bt297.2.2.1 bt302.1 bt302.2.1 bt302.2.2.1 bt307.1 bt307.2.1 bt307.2.2.1)) else (laws_FnCuts.j0 k bt297.2.2.2 bt302.2.2.2 bt307.2.2.2 (Int.tmod (rd t289 4) t281) (Int.tmod (rd t289 5) t282) false t281 t282 t283 t284 t285 t286 bt297.1 bt297.2.1 bt297.2.2.1 bt302.1 bt302.2.1 bt302.2.2.1 bt307.1 bt307.2.1 bt307.2.2.1)) else (laws_FnCuts.j0 k bt297.2.2.2 bt302.2.2.2 bt307.2.2.2 (Int.tmod (rd t289 4) t281) (Int.tmod (rd t289 5) t282) false t281 t282 t283 t284 t285 t286 bt297.1 bt297.2.1 bt297.2.2.1 bt302.1 bt302.2.1 bt302.2.2.1 bt307.1 bt307.2.1 bt307.2.2.1))) else (none))) else (none)))))) else (none))) else (none))) else (none))) else (none)) = some true := H
  have A5 := Aside0.mk A50
  clear A50
  by_cases c6 : 0 < (t289.length : Int)
  ·rw [if_pos c6] at H
   have c6b0 : decide (0 < (t289.length : Int)) = true := decide_eq_true c6
   have c6b1 : decide (0 < t289.length) = true := decide_eq_true (by omega)
   clear c6
   by_cases c7 : t284 = 0
   ·rw [if_pos c7] at H
    exact absurd H (by simp)
   ·rw [if_neg c7] at H
    have c7b0 : (t284 == 0) = false := beq_eq_false_iff_ne.mpr c7
    have c7b1 : (t284 != 0) = true := bne_iff_ne.mpr c7
    by_cases c8 : 1 < (t289.length : Int)
    ·rw [if_pos c8] at H
     have c8b0 : decide (1 < (t289.length : Int)) = true := decide_eq_true c8
     have c8b1 : decide (1 < t289.length) = true := decide_eq_true (by omega)
     clear c8
     by_cases c9 : t285 = 0
     ·rw [if_pos c9] at H
      exact absurd H (by simp)
     ·rw [if_neg c9] at H
      have c9b0 : (t285 == 0) = false := beq_eq_false_iff_ne.mpr c9
      have c9b1 : (t285 != 0) = true := bne_iff_ne.mpr c9
      by_cases c10 : 2 < (t289.length : Int)
      ·rw [if_pos c10] at H
       have c10b0 : decide (2 < (t289.length : Int)) = true := decide_eq_true c10
       have c10b1 : decide (2 < t289.length) = true := decide_eq_true (by omega)
       clear c10
       by_cases c11 : (wrap64 (t284 - (Int.tmod (rd t289 0) t284))) = 0
       ·rw [if_pos c11] at H
        exact absurd H (by simp)
       ·rw [if_neg c11] at H
        have c11b0 : ((wrap64 (t284 - (Int.tmod (rd t289 0) t284))) == 0) = false := beq_eq_false_iff_ne.mpr c11
        have c11b1 : ((wrap64 (t284 - (Int.tmod (rd t289 0) t284))) != 0) = true := bne_iff_ne.mpr c11
        by_cases c12 : 3 < (t289.length : Int)
        ·rw [if_pos c12] at H
         have c12b0 : decide (3 < (t289.length : Int)) = true := decide_eq_true c12
         have c12b1 : decide (3 < t289.length) = true := decide_eq_true (by omega)
         clear c12
         by_cases c13 : (wrap64 (t285 - (Int.tmod (rd t289 1) t285))) = 0
         ·rw [if_pos c13] at H
          exact absurd H (by simp)
         ·rw [if_neg c13] at H
          have c13b0 : ((wrap64 (t285 - (Int.tmod (rd t289 1) t285))) == 0) = false := beq_eq_false_iff_ne.mpr c13
          have c13b1 : ((wrap64 (t285 - (Int.tmod (rd t289 1) t285))) != 0) = true := bne_iff_ne.mpr c13
          replace H := Option.bind_eq_some_iff.mp H
          obtain ⟨⟨t297, t298, t299, t300⟩, A140, H⟩ := H
          replace H : ((impl_Pasted.f k t281 t282 t283 t297 t298 t299 (Int.tmod (rd t289 0) t284) (Int.tmod (rd t289 1) t285)).bind fun bt302 => ((impl_CutOf.f k bt302.1 bt302.2.1 bt302.2.2.1 (Int.tmod (rd t289 0) t284) (Int.tmod (rd t289 1) t285) (wrap64 (1 + (Int.tmod (rd t289 2) (wrap64 (t284 - (Int.tmod (rd t289 0) t284)))))) (wrap64 (1 + (Int.tmod (rd t289 3) (wrap64 (t285 - (Int.tmod (rd t289 1) t285))))))).bind fun bt307 => (if 4 < (t289.length : Int) then (if t281 = 0 then (none) else (if 5 < (t289.length : Int) then (if t282 = 0 then (none) else (if (Int.tmod (rd t289 4) t281) ≥ (Int.tmod (rd t289 0) t284) then (if (Int.tmod (rd t289 4) t281) < (wrap64 ((Int.tmod (rd t289 0) t284) + (wrap64 (1 + (Int.tmod (rd t289 2) (wrap64 (t284 - (Int.tmod (rd t289 0) t284)))))))) then (if (Int.tmod (rd t289 5) t282) ≥ (Int.tmod (rd t289 1) t285) then (laws_FnCuts.j0 k t300 bt302.2.2.2 bt307.2.2.2 (Int.tmod (rd t289 4) t281) (Int.tmod (rd t289 5) t282) (decide ((Int.tmod (rd t289 5) t282) < (wrap64 ((Int.tmod (rd t289 1) t285) + (wrap64 (1 + (Int.tmod (rd t289 3) (wrap64 (t285 - (Int.tmod (rd t289 1) t285)))))))))) t281 t282 t283 t284 t285 t286 t297 t298 t299 bt302.1 bt302.2.1 bt302.2.2.1 bt307.1 bt307.2.1 bt307.2.2.1) else (laws_FnCuts.j0 k t300 bt302.2.2.2 bt307.2.2.2 (Int.tmod (rd t289 4) t281) (Int.tmod (rd t289 5) t282) false t281 t282 t283 t284 t285 t286 t297 t298 t299 bt302.1 bt302.2.1 bt302.2.2.1 bt307.1 bt307.2.1 bt307.2.2.1)) else (laws_FnCuts.j0 k t300 bt302.2.2.2 bt307.2.2.2 (Int.tmod (rd t289 4) t281) (Int.tmod (rd t289 5) t282) false t281 t282 t283 t284 t285 t286 t297 t298 t299 bt302.1 bt302.2.1 bt302.2.2.1 bt307.1 bt307.2.1 bt307.2.2.1)) else (laws_FnCuts.j0 k t300 bt302.2.2.2 bt307.2.2.2 (Int.tmod (rd t289 4) t281) (Int.tmod (rd t289 5) t282) false t281 t282 t283 t284 t285 t286 t297 t298 t299 bt302.1 bt302.2.1 bt302.2.2.1 bt307.1 bt307.2.1 bt307.2.2.1))) else (none))) else (none)))) = some true := H
          have A14 := Aside0.mk A140
          clear A140
          replace H := Option.bind_eq_some_iff.mp H
          obtain ⟨⟨t302, t303, t304, t305⟩, A150, H⟩ := H
          replace H : ((impl_CutOf.f k t302 t303 t304 (Int.tmod (rd t289 0) t284) (Int.tmod (rd t289 1) t285) (wrap64 (1 + (Int.tmod (rd t289 2) (wrap64 (t284 - (Int.tmod (rd t289 0) t284)))))) (wrap64 (1 + (Int.tmod (rd t289 3) (wrap64 (t285 - (Int.tmod (rd t289 1) t285))))))).bind fun bt307 => (if 4 < (t289.length : Int) then (if t281 = 0 then (none) else (if 5 < (t289.length : Int) then (if t282 = 0 then (none) else (if (Int.tmod (rd t289 4) t281) ≥ (Int.tmod (rd t289 0) t284) then (if (Int.tmod (rd t289 4) t281) < (wrap64 ((Int.tmod (rd t289 0) t284) + (wrap64 (1 + (Int.tmod (rd t289 2) (wrap64 (t284 - (Int.tmod (rd t289 0) t284)))))))) then (if (Int.tmod (rd t289 5) t282) ≥ (Int.tmod (rd t289 1) t285) then (laws_FnCuts.j0 k t300 t305 bt307.2.2.2 (Int.tmod (rd t289 4) t281) (Int.tmod (rd t289 5) t282) (decide ((Int.tmod (rd t289 5) t282) < (wrap64 ((Int.tmod (rd t289 1) t285) + (wrap64 (1 + (Int.tmod (rd t289 3) (wrap64 (t285 - (Int.tmod (rd t289 1) t285)))))))))) t281 t282 t283 t284 t285 t286 t297 t298 t299 t302 t303 t304 bt307.1 bt307.2.1 bt307.2.2.1) else (laws_FnCuts.j0 k t300 t305 bt307.2.2.2 (Int.tmod (rd t289 4) t281) (Int.tmod (rd t289 5) t282) false t281 t282 t283 t284 t285 t286 t297 t298 t299 t302 t303 t304 bt307.1 bt307.2.1 bt307.2.2.1)) else (laws_FnCuts.j0 k t300 t305 bt307.2.2.2 (Int.tmod (rd t289 4) t281) (Int.tmod (rd t289 5) t282) false t281 t282 t283 t284 t285 t286 t297 t298 t299 t302 t303 t304 bt307.1 bt307.2.1 bt307.2.2.1)) else (laws_FnCuts.j0 k t300 t305 bt307.2.2.2 (Int.tmod (rd t289 4) t281) (Int.tmod (rd t289 5) t282) false t281 t282 t283 t284 t285 t286 t297 t298 t299 t302 t303 t304 bt307.1 bt307.2.1 bt307.2.2.1))) else (none))) else (none))) = some true := H
          have A15 := Aside0.mk A150
          clear A150
          replace H := Option.bind_eq_some_iff.mp H
          obtain ⟨⟨t307, t308, t309, t310⟩, A160, H⟩ := H
          replace H : (if 4 < (t289.length : Int) then (if t281 = 0 then (none) else (if 5 < (t289.length : Int) then (if t282 = 0 then (none) else (if (Int.tmod (rd t289 4) t281) ≥ (Int.tmod (rd t289 0) t284) then (if (Int.tmod (rd t289 4) t281) < (wrap64 ((Int.tmod (rd t289 0) t284) + (wrap64 (1 + (Int.tmod (rd t289 2) (wrap64 (t284 - (Int.tmod (rd t289 0) t284)))))))) then (if (Int.tmod (rd t289 5) t282) ≥ (Int.tmod (rd t289 1) t285) then (laws_FnCuts.j0 k t300 t305 t310 (Int.tmod (rd t289 4) t281) (Int.tmod (rd t289 5) t282) (decide ((Int.tmod (rd t289 5) t282) < (wrap64 ((Int.tmod (rd t289 1) t285) + (wrap64 (1 + (Int.tmod (rd t289 3) (wrap64 (t285 - (Int.tmod (rd t289 1) t285)))))))))) t281 t282 t283 t284 t285 t286 t297 t298 t299 t302 t303 t304 t307 t308 t309) else (laws_FnCuts.j0 k t300 t305 t310 (Int.tmod (rd t289 4) t281) (Int.tmod (rd t289 5) t282) false t281 t282 t283 t284 t285 t286 t297 t298 t299 t302 t303 t304 t307 t308 t309)) else (laws_FnCuts.j0 k t300 t305 t310 (Int.tmod (rd t289 4) t281) (Int.tmod (rd t289 5) t282) false t281 t282 t283 t284 t285 t286 t297 t298 t299 t302 t303 t304 t307 t308 t309)) else (laws_FnCuts.j0 k t300 t305 t310 (Int.tmod (rd t289 4) t281) (Int.tmod (rd t289 5) t282) false t281 t282 t283 t284 t285 t286 t297 t298 t299 t302 t303 t304 t307 t308 t309))) else (none))) else (none)) = some true := H
          have A16 := Aside0.mk A160
          clear A160
          by_cases c17 : 4 < (t289.length : Int)
          ·rw [if_pos c17] at H
           have c17b0 : decide (4 < (t289.length : Int)) = true := decide_eq_true c17
           have c17b1 : decide (4 < t289.length) = true := decide_eq_true (by omega)
           clear c17
           by_cases c18 : t281 = 0
           ·rw [if_pos c18] at H
            exact absurd H (by simp)
           ·rw [if_neg c18] at H
            have c18b0 : (t281 == 0) = false := beq_eq_false_iff_ne.mpr c18
            have c18b1 : (t281 != 0) = true := bne_iff_ne.mpr c18
            by_cases c19 : 5 < (t289.length : Int)
            ·rw [if_pos c19] at H
             have c19b0 : decide (5 < (t289.length : Int)) = true := decide_eq_true c19
             have c19b1 : decide (5 < t289.length) = true := decide_eq_true (by omega)
             clear c19
             by_cases c20 : t282 = 0
             ·rw [if_pos c20] at H
              exact absurd H (by simp)
             ·rw [if_neg c20] at H
              have c20b0 : (t282 == 0) = false := beq_eq_false_iff_ne.mpr c20
              have c20b1 : (t282 != 0) = true := bne_iff_ne.mpr c20
              have HC21 := Aside0.mk H
              clear H
              go_enter Try.func4, Try.ntmps4
              try go_wp2_with (first | ((with_reducible refine gate_callee (f := 14) rfl ?_); refine goesL_ (some 18) rfl rfl Try.func14 (by kernel_rfl) rfl #[.slice A0 l0.length c0] rfl (by (try simp only [List.map_toArray, List.map_cons, List.map_nil]); first | done | rfl | (simp only [List.length_drop, List.length_take]; rfl)) ?_; (with_reducible refine (laws_big.calls _ _ l0 false _ ?side1 ?side2 A2.out).mono ?_); (case side1 => repeat (first | exact HR0.out | (with_reducible refine Kd.C_alloc ?_ _) | (with_reducible refine Kd.C_drewN ?_ _) | (with_reducible refine Kd.C_drew ?_))); (case side2 => exact HC0.out); rintro e w' ⟨rfl, ⟨nd, rfl⟩⟩; refine ⟨_, rfl, ?_⟩) | ((with_reducible refine gate_callee (f := 15) rfl ?_); refine goesL_ (some 21) rfl rfl Try.func15 (by kernel_rfl) rfl #[.slice A0 l0.length c0] rfl (by (try simp only [List.map_toArray, List.map_cons, List.map_nil]); first | done | rfl | (simp only [List.length_drop, List.length_take]; rfl)) ?_; (with_reducible refine (spec_DrawPics.calls k _ _ l0 t281 t282 t283 t284 t285 t286 _ ?side1 ?side2 A4.out).mono ?_); (case side1 => repeat (first | exact HR0.out | (with_reducible refine Kd.C_alloc ?_ _) | (with_reducible refine Kd.C_drewN ?_ _) | (with_reducible refine Kd.C_drew ?_))); (case side2 => exact HC0.out); rintro e w22 ⟨rfl, hb⟩; refine ⟨_, rfl, ?_⟩; have n0_ := Aside0.mk (below_step (by repeat (first | (with_reducible first | exact HB.out | apply below_alloc | apply pw_below_drewN | apply below_drew1) | exact HB.out)) hb); clear HB; have HB := n0_; clear n0_; (try clear hb); (try clear hb2); (try clear hk); (try clear hi)) | ((with_reducible refine gate_dst (N := 3) rfl ?_); refine box_event ?hg (N := 3) ?hd (cs := #[.int .i64 0, .int .i64 0, .string (⟨#[]⟩ : ByteArray)]) (t := 25) ?hr ?_; (case hd => rfl); (case hg => rfl); (case hr => first | (go_simp; done) | (go_simp; rfl)); intro gb287 hg w23 hbox hb; have n0_ := Aside0.mk (below_step (by repeat (first | (with_reducible first | exact HB.out | apply below_alloc | apply pw_below_drewN | apply below_drew1) | exact HB.out)) hb); have n1_ := Aside0.mk (hbox); have n2_ := Aside0.mk ((by rw [hg]; exact (below_size (by repeat (first | (with_reducible first | exact HB.out | apply below_alloc | apply pw_below_drewN | apply below_drew1) | exact HB.out))) : w.heap.size ≤ gb287)); have n3_ := Aside0.mk ((by rw [hg]; exact (below_size (by repeat (first | (with_reducible first | exact HB.out | apply below_alloc | apply pw_below_drewN | apply below_drew1) | exact HB.out))) : w.heap.size ≤ gb287)); clear HB; have HB := n0_; have BK287 := n1_; have GW287 := n2_; have GE287 := n3_; clear n0_ n1_ n2_ n3_; clear hb hbox hg) | ((with_reducible refine gate_dst (N := 4) rfl ?_); refine box_event ?hg (N := 4) ?hd (cs := #[.int .i64 0, .int .i64 0, .string (⟨#[]⟩ : ByteArray)]) (t := 25) ?hr ?_; (case hd => rfl); (case hg => rfl); (case hr => first | (go_simp; done) | (go_simp; rfl)); intro gb288 hg w24 hbox hb; have n0_ := Aside0.mk (blk_below (g := gb287) (o := .cells #[.int .i64 0, .int .i64 0, .string (⟨#[]⟩ : ByteArray)] 25 (0, 0)) (by (with_reducible repeat (first | refine blk_drewN ?_ _ | refine blk_drew ?_ | refine blk_alloc ?_ _)); exact BK287.out) hb); have n1_ := Aside0.mk (below_step (by repeat (first | (with_reducible first | exact HB.out | apply below_alloc | apply pw_below_drewN | apply below_drew1 | refine below_set ?_ GE287.out) | exact HB.out)) hb); have n2_ := Aside0.mk (hbox); have n3_ := Aside0.mk ((by rw [hg]; exact (below_size (by repeat (first | (with_reducible first | exact HB.out | apply below_alloc | apply pw_below_drewN | apply below_drew1 | refine below_set ?_ GE287.out) | exact HB.out))) : w.heap.size ≤ gb288)); have n4_ := Aside0.mk ((by rw [hg]; exact (below_size (by repeat (first | (with_reducible first | exact HB.out | apply below_alloc | apply pw_below_drewN | apply below_drew1 | refine below_set ?_ GE287.out) | exact HB.out))) : w.heap.size ≤ gb288)); have n5_ := Aside0.mk ((by rw [hg]; exact Nat.ne_of_lt (blk_lt (g := gb287) (o := .cells #[.int .i64 0, .int .i64 0, .string (⟨#[]⟩ : ByteArray)] 25 (0, 0)) (by (with_reducible repeat (first | refine blk_drewN ?_ _ | refine blk_drew ?_ | refine blk_alloc ?_ _)); exact BK287.out)) : gb287 ≠ gb288)); have n6_ := Aside0.mk ((by rw [hg]; exact Nat.ne_of_gt (blk_lt (g := gb287) (o := .cells #[.int .i64 0, .int .i64 0, .string (⟨#[]⟩ : ByteArray)] 25 (0, 0)) (by (with_reducible repeat (first | refine blk_drewN ?_ _ | refine blk_drew ?_ | refine blk_alloc ?_ _)); exact BK287.out)) : gb288 ≠ gb287)); clear BK287; clear HB; have BK287 := n0_; have HB := n1_; have BK288 := n2_; have GW288 := n3_; have GE288 := n4_; have NB287_288 := n5_; have NB288_287 := n6_; clear n0_ n1_ n2_ n3_ n4_ n5_ n6_; clear hb hbox hg; have hnb25 := NB287_288.out; have hnc25 := NB288_287.out; have hcz26_0 : w24.cell? ⟨gb287, 0, none⟩ = some (.int .i64 0) := (blk_cell BK287.out 0).trans rfl; have hcz26_1 : w24.cell? ⟨gb287, 1, none⟩ = some (.int .i64 0) := (blk_cell BK287.out 1).trans rfl; have hcz26_2 : w24.cell? ⟨gb287, 2, none⟩ = some (.string (⟨#[]⟩ : ByteArray)) := (blk_cell BK287.out 2).trans rfl; have hfz26_0 := blk_frozen BK287.out 0; have hfz26_1 := blk_frozen BK287.out 1; have hfz26_2 := blk_frozen BK287.out 2; have hcz27_0 : w24.cell? ⟨gb288, 0, none⟩ = some (.int .i64 0) := (blk_cell BK288.out 0).trans rfl; have hcz27_1 : w24.cell? ⟨gb288, 1, none⟩ = some (.int .i64 0) := (blk_cell BK288.out 1).trans rfl; have hcz27_2 : w24.cell? ⟨gb288, 2, none⟩ = some (.string (⟨#[]⟩ : ByteArray)) := (blk_cell BK288.out 2).trans rfl; have hfz27_0 := blk_frozen BK288.out 0; have hfz27_1 := blk_frozen BK288.out 1; have hfz27_2 := blk_frozen BK288.out 2) | ((with_reducible refine gate_callee (f := 16) rfl ?_); refine goesL_ (some 25) rfl rfl Try.func16 (by kernel_rfl) rfl #[.slice A0 l0.length c0] rfl (by (try simp only [List.map_toArray, List.map_cons, List.map_nil]); first | done | rfl | (simp only [List.length_drop, List.length_take]; rfl)) ?_; (with_reducible refine (spec_DrawPlaces.calls k _ _ l0 t289 _ ?side1 ?side2 A5.out).mono ?_); (case side1 => exact Kd.C_below HR0.out (by repeat (first | (with_reducible first | exact HB.out | apply below_alloc | apply pw_below_drewN | apply below_drew1 | refine below_set ?_ GE287.out | refine below_set ?_ GE288.out) | exact HB.out))); (case side2 => exact HC0.out); rintro e w28 ⟨v290, rfl, ho0, hb⟩; refine ⟨_, rfl, ?_⟩; have n0_ := Aside0.mk (Kd.R_lower ho0 (below_size (by repeat (first | (with_reducible first | exact HB.out | apply below_alloc | apply pw_below_drewN | apply below_drew1 | refine below_set ?_ GE287.out | refine below_set ?_ GE288.out) | exact HB.out)))); have n1_ := Aside0.mk (blk_below (g := gb287) (o := .cells #[.int .i64 t281, .int .i64 t282, .string t283] 25 (0, 0)) (by (with_reducible repeat (first | refine blk_drewN ?_ _ | refine blk_drew ?_ | refine blk_alloc ?_ _)); refine blk_far ?_ NB287_288.out _; (with_reducible repeat (first | refine blk_drewN ?_ _ | refine blk_drew ?_ | refine blk_alloc ?_ _)); refine blk_far ?_ NB287_288.out _; (with_reducible repeat (first | refine blk_drewN ?_ _ | refine blk_drew ?_ | refine blk_alloc ?_ _)); refine blk_far ?_ NB287_288.out _; (with_reducible repeat (first | refine blk_drewN ?_ _ | refine blk_drew ?_ | refine blk_alloc ?_ _)); refine blk_put (cs := #[.int .i64 t281, .int .i64 t282, .string (⟨#[]⟩ : ByteArray)]) ?_ 2 _ rfl; (with_reducible repeat (first | refine blk_drewN ?_ _ | refine blk_drew ?_ | refine blk_alloc ?_ _)); refine blk_put (cs := #[.int .i64 t281, .int .i64 0, .string (⟨#[]⟩ : ByteArray)]) ?_ 1 _ rfl; (with_reducible repeat (first | refine blk_drewN ?_ _ | refine blk_drew ?_ | refine blk_alloc ?_ _)); refine blk_put (cs := #[.int .i64 0, .int .i64 0, .string (⟨#[]⟩ : ByteArray)]) ?_ 0 _ rfl; (with_reducible repeat (first | refine blk_drewN ?_ _ | refine blk_drew ?_ | refine blk_alloc ?_ _)); exact BK287.out) hb); have n2_ := Aside0.mk (blk_below (g := gb288) (o := .cells #[.int .i64 t284, .int .i64 t285, .string t286] 25 (0, 0)) (by (with_reducible repeat (first | refine blk_drewN ?_ _ | refine blk_drew ?_ | refine blk_alloc ?_ _)); refine blk_put (cs := #[.int .i64 t284, .int .i64 t285, .string (⟨#[]⟩ : ByteArray)]) ?_ 2 _ rfl; (with_reducible repeat (first | refine blk_drewN ?_ _ | refine blk_drew ?_ | refine blk_alloc ?_ _)); refine blk_put (cs := #[.int .i64 t284, .int .i64 0, .string (⟨#[]⟩ : ByteArray)]) ?_ 1 _ rfl; (with_reducible repeat (first | refine blk_drewN ?_ _ | refine blk_drew ?_ | refine blk_alloc ?_ _)); refine blk_put (cs := #[.int .i64 0, .int .i64 0, .string (⟨#[]⟩ : ByteArray)]) ?_ 0 _ rfl; (with_reducible repeat (first | refine blk_drewN ?_ _ | refine blk_drew ?_ | refine blk_alloc ?_ _)); refine blk_far ?_ NB288_287.out _; (with_reducible repeat (first | refine blk_drewN ?_ _ | refine blk_drew ?_ | refine blk_alloc ?_ _)); refine blk_far ?_ NB288_287.out _; (with_reducible repeat (first | refine blk_drewN ?_ _ | refine blk_drew ?_ | refine blk_alloc ?_ _)); refine blk_far ?_ NB288_287.out _; (with_reducible repeat (first | refine blk_drewN ?_ _ | refine blk_drew ?_ | refine blk_alloc ?_ _)); exact BK288.out) hb); have n3_ := Aside0.mk (below_step (by repeat (first | (with_reducible first | exact HB.out | apply below_alloc | apply pw_below_drewN | apply below_drew1 | refine below_set ?_ GE287.out | refine below_set ?_ GE288.out) | exact HB.out)) hb); clear BK287; clear BK288; clear HB; have HO291 := n0_; have BK287 := n1_; have BK288 := n2_; have HB := n3_; clear n0_ n1_ n2_ n3_; (try clear hb); (try clear hb2); (try clear hk); (try clear hi); (try clear ho0)))
              have n0_ := Aside0.mk (Kd.R_drew HO291.out)
              have n1_ := Aside0.mk (blk_drew BK287.out)
              have n2_ := Aside0.mk (blk_drew BK288.out)
              have n3_ := Aside0.mk (below_drew1 HB.out)
              clear HO291
              clear BK287
              clear BK288
              clear HB
              have HO291 := n0_
              have BK287 := n1_
              have BK288 := n2_
              have HB := n3_
              clear n0_ n1_ n2_ n3_
              obtain ⟨Ao30, co30, eo30⟩ := Kd.R_slice HO291.out
              (first | subst eo30 | (injection eo30 with f1_ f2_ f3_; have f4_ := f1_.symm; have f5_ := f3_.symm; clear f1_ f2_ f3_; subst f4_; subst f5_))
              have p292 : 0 ≤ (0 : Int) := (by omega)
              have q292 : 0 < (t289.length : Int) := of_decide_eq_true (by first | (with_reducible assumption) | assumption)
              obtain ⟨ad292, e292, hx292_0⟩ := Kd.at_int (Kd.R_reads' HO291.out).2.2 0 p292 q292
              cases e292
              have qi292 : (0 < t289.length) = True := eq_true (by omega)
              (try rw [show ((0 : Int)).toNat = 0 from rfl] at hx292_0)
              (try rw [Addr.add_zero'] at hx292_0)
              replace p292 := eq_true p292
              replace q292 := eq_true q292
              have p293 : 0 ≤ (1 : Int) := (by omega)
              have q293 : 1 < (t289.length : Int) := of_decide_eq_true (by first | (with_reducible assumption) | assumption)
              obtain ⟨ad293, e293, hx293_0⟩ := Kd.at_int (Kd.R_reads' HO291.out).2.2 1 p293 q293
              obtain rfl : ad292 = ad293 := (by injection e293)
              (try simp only [show (1 : Int).toNat = 1 from rfl, Nat.reduceMul, Nat.reduceEqDiff, Go.Addr.add, ↓reduceIte] at hx293_0)
              have qi293 : (1 < t289.length) = True := eq_true (by omega)
              (try rw [show ((1 : Int)).toNat = 1 from rfl] at hx293_0)
              replace p293 := eq_true p293
              replace q293 := eq_true q293
              refine start_ (n := 15) (S := fun w' => w'.cell? ⟨gb288, 0, none⟩ = some (.int .i64 t284) ∧ w'.cell? ⟨gb288, 1, none⟩ = some (.int .i64 t285) ∧ w'.cell? ⟨gb288, 2, none⟩ = some (.string t286) ∧ w'.cell? ad292 = some (.int .i64 (rd t289 0)) ∧ w'.cell? ⟨ad292.block, ad292.off + 1, none⟩ = some (.int .i64 (rd t289 1))) (ds := []) #[Z,Z,Z,Z,Z,Z,Z,Z,Z,Z,Z,Z,Z,Z,Z] (by kernel_rfl) rfl rfl ⟨(blk_cell BK288.out 0).trans rfl, (blk_cell BK288.out 1).trans rfl, (blk_cell BK288.out 2).trans rfl, hx292_0, hx293_0⟩ (fun hHeld => ?_); refine with_tabW laws_FnCuts.tab5 laws_FnCuts.bits5 (fun HT_ HW_ => ?_)
              generalize w28.drew = w29 at HO291 BK287 BK288 HB hx292_0 hx293_0 hHeld ⊢
              refine pure_ (i := 0) (N := some 26) (v := ?_) (a' := ?_) #[Y,Z,Z,Z,Z,Z,Z,Z,Z,Z,Z,Z,Z,Z,Z] rfl rfl (any_of HT_.out (by kernel_rfl)) (fun _ _ _ h => h) (Or.inl ⟨by rfl, ?_⟩) ?_ ?_
              rotate_left
              ·intro w'
               go_simp
               with_reducible rfl
              rotate_left
              ·simp only [Act.put, List.setIfInBounds_toArray, List.set_cons_zero, List.set_cons_succ, i64_w, i32_w]
               rfl
              refine pure_ (i := 1) (N := some 27) (v := ?_) (a' := ?_) #[Y,Y,Z,Z,Z,Z,Z,Z,Z,Z,Z,Z,Z,Z,Z] rfl rfl (any_of HT_.out (by kernel_rfl)) (fun _ _ _ h => h) (Or.inl ⟨by rfl, ?_⟩) ?_ ?_
              rotate_left
              ·intro w'
               go_simp
               with_reducible rfl
              rotate_left
              ·simp only [Act.put, List.setIfInBounds_toArray, List.set_cons_zero, List.set_cons_succ, i64_w, i32_w]
               rfl
              refine pure_ (i := 3) (N := some 29) (v := ?_) (a' := ?_) #[Y,Y,Z,Y,Z,Z,Z,Z,Z,Z,Z,Z,Z,Z,Z] rfl rfl (any_of HT_.out (by kernel_rfl)) (fun _ _ _ h => h) (Or.inl ⟨by rfl, ?_⟩) ?_ ?_
              rotate_left
              ·intro w'
               go_simp
               with_reducible rfl
              rotate_left
              ·simp only [Act.put, List.setIfInBounds_toArray, List.set_cons_zero, List.set_cons_succ, i64_w, i32_w]
               rfl
              refine pure_ (i := 6) (N := some 32) (v := ?_) (a' := ?_) #[Y,Y,Z,Y,Z,Z,Y,Z,Z,Z,Z,Z,Z,Z,Z] rfl rfl (any_of HT_.out (by kernel_rfl)) (fun _ _ _ h => h) (Or.inl ⟨by rfl, ?_⟩) ?_ ?_
              rotate_left
              ·intro w'
               go_simp
               with_reducible rfl
              rotate_left
              ·simp only [Act.put, List.setIfInBounds_toArray, List.set_cons_zero, List.set_cons_succ, i64_w, i32_w]
               rfl
              refine pure_ (i := 7) (N := some 33) (v := ?_) (a' := ?_) #[Y,Y,Z,Y,Z,Z,Y,Y,Z,Z,Z,Z,Z,Z,Z] rfl rfl (any_of HT_.out (by kernel_rfl)) (fun _ _ _ h => h) (Or.inl ⟨by rfl, ?_⟩) ?_ ?_
              rotate_left
              ·intro w'
               go_simp
               with_reducible rfl
              rotate_left
              ·simp only [Act.put, List.setIfInBounds_toArray, List.set_cons_zero, List.set_cons_succ, i64_w, i32_w]
               rfl
              refine pure_ (i := 9) (N := some 35) (v := ?_) (a' := ?_) #[Y,Y,Z,Y,Z,Z,Y,Y,Z,Y,Z,Z,Z,Z,Z] rfl rfl (any_of HT_.out (by kernel_rfl)) (fun _ _ _ h => h) (Or.inl ⟨by rfl, ?_⟩) ?_ ?_
              rotate_left
              ·intro w'
               go_simp
               with_reducible rfl
              rotate_left
              ·simp only [Act.put, List.setIfInBounds_toArray, List.set_cons_zero, List.set_cons_succ, i64_w, i32_w]
               rfl
              refine take_ (i := 2) (N := some 28) (v := ?_) (a' := ?_) #[Y,Y,Y,Y,Z,Z,Y,Y,Z,Y,Z,Z,Z,Z,Z] rfl rfl (take_ofW HT_.out HW_.out (by kernel_rfl)) (fun _ _ _ h => h) (Or.inl ⟨by rfl, ?_⟩) hHeld ?_ ?_
              rotate_left
              ·rintro w' ⟨s0, s1, s2, s3, s4⟩
               go_simp
               with_reducible rfl
              rotate_left
              ·simp only [Act.put, List.setIfInBounds_toArray, List.set_cons_zero, List.set_cons_succ, i64_w, i32_w]
               rfl
              refine take_ (i := 4) (N := some 30) (v := ?_) (a' := ?_) #[Y,Y,Y,Y,Y,Z,Y,Y,Z,Y,Z,Z,Z,Z,Z] rfl rfl (take_ofW HT_.out HW_.out (by kernel_rfl)) (fun _ _ _ h => h) (Or.inl ⟨by rfl, ?_⟩) hHeld ?_ ?_
              rotate_left
              ·rintro w' ⟨s0, s1, s2, s3, s4⟩
               go_simp
               with_reducible rfl
              rotate_left
              ·simp only [Act.put, List.setIfInBounds_toArray, List.set_cons_zero, List.set_cons_succ, i64_w, i32_w]
               rfl
              refine pure_ (i := 5) (N := some 31) (v := ?_) (a' := ?_) #[Y,Y,Y,Y,Y,Y,Y,Y,Z,Y,Z,Z,Z,Z,Z] rfl rfl (any_of HT_.out (by kernel_rfl)) (fun _ _ _ h => h) (Or.inl ⟨by rfl, ?_⟩) ?_ ?_
              rotate_left
              ·intro w'
               go_simp
               with_reducible rfl
              rotate_left
              ·simp only [Act.put, List.setIfInBounds_toArray, List.set_cons_zero, List.set_cons_succ, i64_w, i32_w]
               rfl
              refine take_ (i := 8) (N := some 34) (v := ?_) (a' := ?_) #[Y,Y,Y,Y,Y,Y,Y,Y,Y,Y,Z,Z,Z,Z,Z] rfl rfl (take_ofW HT_.out HW_.out (by kernel_rfl)) (fun _ _ _ h => h) (Or.inl ⟨by rfl, ?_⟩) hHeld ?_ ?_
              rotate_left
              ·rintro w' ⟨s0, s1, s2, s3, s4⟩
               go_simp
               with_reducible rfl
              rotate_left
              ·simp only [Act.put, List.setIfInBounds_toArray, List.set_cons_zero, List.set_cons_succ, i64_w, i32_w]
               rfl
              refine take_ (i := 10) (N := some 36) (v := ?_) (a' := ?_) #[Y,Y,Y,Y,Y,Y,Y,Y,Y,Y,Y,Z,Z,Z,Z] rfl rfl (take_ofW HT_.out HW_.out (by kernel_rfl)) (fun _ _ _ h => h) (Or.inl ⟨by rfl, ?_⟩) hHeld ?_ ?_
              rotate_left
              ·rintro w' ⟨s0, s1, s2, s3, s4⟩
               go_simp
               with_reducible rfl
              rotate_left
              ·simp only [Act.put, List.setIfInBounds_toArray, List.set_cons_zero, List.set_cons_succ, i64_w, i32_w]
               rfl
              refine pure_ (i := 11) (N := some 37) (v := ?_) (a' := ?_) #[Y,Y,Y,Y,Y,Y,Y,Y,Y,Y,Y,Y,Z,Z,Z] rfl rfl (any_of HT_.out (by kernel_rfl)) (fun _ _ _ h => h) (Or.inl ⟨by rfl, ?_⟩) ?_ ?_
              rotate_left
              ·intro w'
               go_simp
               with_reducible rfl
              rotate_left
              ·simp only [Act.put, List.setIfInBounds_toArray, List.set_cons_zero, List.set_cons_succ, i64_w, i32_w]
               rfl
              refine pure_ (i := 12) (N := some 38) (v := ?_) (a' := ?_) #[Y,Y,Y,Y,Y,Y,Y,Y,Y,Y,Y,Y,Y,Z,Z] rfl rfl (any_of HT_.out (by kernel_rfl)) (fun _ _ _ h => h) (Or.inl ⟨by rfl, ?_⟩) ?_ ?_
              rotate_left
              ·intro w'
               go_simp
               with_reducible rfl
              rotate_left
              ·simp only [Act.put, List.setIfInBounds_toArray, List.set_cons_zero, List.set_cons_succ, i64_w, i32_w]
               rfl
              refine one_ (i := 13) (N := some 6) #[Y,Y,Y,Y,Y,Y,Y,Y,Y,Y,Y,Y,Y,Y,Z] rfl rfl (one_of HT_.out (by kernel_rfl)) (by decide) (fun K hK => ?_)
              refine box_step ?hg (N := 6) ?hd (cs := #[.int .i64 0, .int .i64 0, .int .i64 0, .int .i64 0]) (t := 38) ?hr ?_; (case hd => rfl); (case hg => rfl); (case hr => first | (go_simp; done) | (go_simp; rfl))
              intro gb294 hg w31 hbox hb
              have HS3_ := (hb.cell (World.block_lt_of_cell? _ _ (hHeld.2.2.2.1))).trans (hHeld.2.2.2.1)
              have HS4_ := (hb.cell (World.block_lt_of_cell? _ _ (hHeld.2.2.2.2))).trans (hHeld.2.2.2.2)
              have n0_ := Aside0.mk (Kd.R_below (by (with_reducible repeat (first | apply Kd.R_alloc | apply Kd.R_drewN | apply Kd.R_drew)); exact HO291.out) hb)
              have n1_ := Aside0.mk (blk_below (g := gb287) (o := .cells #[.int .i64 t281, .int .i64 t282, .string t283] 25 (0, 0)) (by (with_reducible repeat (first | refine blk_drewN ?_ _ | refine blk_drew ?_ | refine blk_alloc ?_ _)); exact BK287.out) hb)
              have n2_ := Aside0.mk (blk_below (g := gb288) (o := .cells #[.int .i64 t284, .int .i64 t285, .string t286] 25 (0, 0)) (by (with_reducible repeat (first | refine blk_drewN ?_ _ | refine blk_drew ?_ | refine blk_alloc ?_ _)); exact BK288.out) hb)
              have n3_ := Aside0.mk (below_step (by repeat (first | (with_reducible first | exact HB.out | apply below_alloc | apply pw_below_drewN | apply below_drew1 | refine below_set ?_ GE287.out | refine below_set ?_ GE288.out) | exact HB.out)) hb)
              have n4_ := Aside0.mk (hbox)
              have n5_ := Aside0.mk ((by rw [hg]; exact (below_size (by repeat (first | (with_reducible first | exact HB.out | apply below_alloc | apply pw_below_drewN | apply below_drew1 | refine below_set ?_ GE287.out | refine below_set ?_ GE288.out) | exact HB.out))) : w.heap.size ≤ gb294))
              have n6_ := Aside0.mk ((by rw [hg]; exact (below_size (by repeat (first | (with_reducible first | exact HB.out | apply below_alloc | apply pw_below_drewN | apply below_drew1 | refine below_set ?_ GE287.out | refine below_set ?_ GE288.out) | exact HB.out))) : w.heap.size ≤ gb294))
              have n7_ := Aside0.mk ((by rw [hg]; exact Nat.ne_of_lt (blk_lt (g := gb287) (o := .cells #[.int .i64 t281, .int .i64 t282, .string t283] 25 (0, 0)) (by (with_reducible repeat (first | refine blk_drewN ?_ _ | refine blk_drew ?_ | refine blk_alloc ?_ _)); exact BK287.out)) : gb287 ≠ gb294))
              have n8_ := Aside0.mk ((by rw [hg]; exact Nat.ne_of_gt (blk_lt (g := gb287) (o := .cells #[.int .i64 t281, .int .i64 t282, .string t283] 25 (0, 0)) (by (with_reducible repeat (first | refine blk_drewN ?_ _ | refine blk_drew ?_ | refine blk_alloc ?_ _)); exact BK287.out)) : gb294 ≠ gb287))
              have n9_ := Aside0.mk ((by rw [hg]; exact Nat.ne_of_lt (blk_lt (g := gb288) (o := .cells #[.int .i64 t284, .int .i64 t285, .string t286] 25 (0, 0)) (by (with_reducible repeat (first | refine blk_drewN ?_ _ | refine blk_drew ?_ | refine blk_alloc ?_ _)); exact BK288.out)) : gb288 ≠ gb294))
              have n10_ := Aside0.mk ((by rw [hg]; exact Nat.ne_of_gt (blk_lt (g := gb288) (o := .cells #[.int .i64 t284, .int .i64 t285, .string t286] 25 (0, 0)) (by (with_reducible repeat (first | refine blk_drewN ?_ _ | refine blk_drew ?_ | refine blk_alloc ?_ _)); exact BK288.out)) : gb294 ≠ gb288))
              clear HO291
              clear BK287
              clear BK288
              clear HB
              have HO291 := n0_
              have BK287 := n1_
              have BK288 := n2_
              have HB := n3_
              have BK294 := n4_
              have GW294 := n5_
              have GE294 := n6_
              have NB287_294 := n7_
              have NB294_287 := n8_
              have NB288_294 := n9_
              have NB294_288 := n10_
              clear n0_ n1_ n2_ n3_ n4_ n5_ n6_ n7_ n8_ n9_ n10_
              clear hb hbox hg
              refine hK.out _ _ ⟨(blk_cell BK288.out 0).trans rfl, (blk_cell BK288.out 1).trans rfl, (blk_cell BK288.out 2).trans rfl, HS3_, HS4_⟩ (fun hHeld => ?_)
              clear hK K
              refine norm_ (a' := ?_) ?_ ?_
              rotate_left
              ·show Act.put _ (some 6) _ = _
               simp only [Act.put, List.setIfInBounds_toArray, List.set_cons_zero, List.set_cons_succ, i64_w, i32_w]
               rfl
              refine one_ (i := 14) (N := none) #[Y,Y,Y,Y,Y,Y,Y,Y,Y,Y,Y,Y,Y,Y,Y] rfl rfl (one_of HT_.out (by kernel_rfl)) (by decide) (fun K hK => ?_)
              have hs32 : w31.cell? ⟨gb294, 0, none⟩ = some (.int .i64 0) := (blk_cell BK294.out 0).trans rfl
              have hfs32 := blk_frozen BK294.out 0
              have hns32_0 := NB287_294.out
              have hns32_1 := NB288_294.out
              have hms32_0 := NB294_287.out
              have hms32_1 := NB294_288.out
              have hs33 : w31.cell? ⟨gb294, 1, none⟩ = some (.int .i64 0) := (blk_cell BK294.out 1).trans rfl
              have hfs33 := blk_frozen BK294.out 1
              have hns33_0 := NB287_294.out
              have hns33_1 := NB288_294.out
              have hms33_0 := NB294_287.out
              have hms33_1 := NB294_288.out
              have hs34 : w31.cell? ⟨gb294, 2, none⟩ = some (.int .i64 0) := (blk_cell BK294.out 2).trans rfl
              have hfs34 := blk_frozen BK294.out 2
              have hns34_0 := NB287_294.out
              have hns34_1 := NB288_294.out
              have hms34_0 := NB294_287.out
              have hms34_1 := NB294_288.out
              have hs35 : w31.cell? ⟨gb294, 3, none⟩ = some (.int .i64 0) := (blk_cell BK294.out 3).trans rfl
              have hfs35 := blk_frozen BK294.out 3
              have hns35_0 := NB287_294.out
              have hns35_1 := NB288_294.out
              have hms35_0 := NB294_287.out
              have hms35_1 := NB294_288.out
              refine skip_ (w1 := ?_) (by rfl) rfl ?_ ?_
              rotate_left
              ·go_simp
               rfl
              refine hK.out _ _ ⟨((cell_far (p := ⟨gb294, _, none⟩) NB288_294.out _).trans (((cell_far (p := ⟨gb294, _, none⟩) NB288_294.out _).trans (((cell_far (p := ⟨gb294, _, none⟩) NB288_294.out _).trans (((cell_far (p := ⟨gb294, _, none⟩) NB288_294.out _).trans (hHeld.1)))))))), ((cell_far (p := ⟨gb294, _, none⟩) NB288_294.out _).trans (((cell_far (p := ⟨gb294, _, none⟩) NB288_294.out _).trans (((cell_far (p := ⟨gb294, _, none⟩) NB288_294.out _).trans (((cell_far (p := ⟨gb294, _, none⟩) NB288_294.out _).trans (hHeld.2.1)))))))), ((cell_far (p := ⟨gb294, _, none⟩) NB288_294.out _).trans (((cell_far (p := ⟨gb294, _, none⟩) NB288_294.out _).trans (((cell_far (p := ⟨gb294, _, none⟩) NB288_294.out _).trans (((cell_far (p := ⟨gb294, _, none⟩) NB288_294.out _).trans (hHeld.2.2.1)))))))), ((cell_far (p := ⟨gb294, _, none⟩) (by first | exact Kd.own_blk (Kd.R_ne HO291.out BK294.out (by decide)) | (rw [add_block]; exact Kd.own_blk (Kd.R_ne HO291.out BK294.out (by decide))) | (show (Addr.add _ _).block ≠ _; rw [add_block]; exact Kd.own_blk (Kd.R_ne HO291.out BK294.out (by decide))) | (dsimp only; exact Kd.own_blk (Kd.R_ne HO291.out BK294.out (by decide)))) _).trans (((cell_far (p := ⟨gb294, _, none⟩) (by first | exact Kd.own_blk (Kd.R_ne HO291.out BK294.out (by decide)) | (rw [add_block]; exact Kd.own_blk (Kd.R_ne HO291.out BK294.out (by decide))) | (show (Addr.add _ _).block ≠ _; rw [add_block]; exact Kd.own_blk (Kd.R_ne HO291.out BK294.out (by decide))) | (dsimp only; exact Kd.own_blk (Kd.R_ne HO291.out BK294.out (by decide)))) _).trans (((cell_far (p := ⟨gb294, _, none⟩) (by first | exact Kd.own_blk (Kd.R_ne HO291.out BK294.out (by decide)) | (rw [add_block]; exact Kd.own_blk (Kd.R_ne HO291.out BK294.out (by decide))) | (show (Addr.add _ _).block ≠ _; rw [add_block]; exact Kd.own_blk (Kd.R_ne HO291.out BK294.out (by decide))) | (dsimp only; exact Kd.own_blk (Kd.R_ne HO291.out BK294.out (by decide)))) _).trans (((cell_far (p := ⟨gb294, _, none⟩) (by first | exact Kd.own_blk (Kd.R_ne HO291.out BK294.out (by decide)) | (rw [add_block]; exact Kd.own_blk (Kd.R_ne HO291.out BK294.out (by decide))) | (show (Addr.add _ _).block ≠ _; rw [add_block]; exact Kd.own_blk (Kd.R_ne HO291.out BK294.out (by decide))) | (dsimp only; exact Kd.own_blk (Kd.R_ne HO291.out BK294.out (by decide)))) _).trans (hHeld.2.2.2.1)))))))), ((cell_far (p := ⟨gb294, _, none⟩) (by first | exact Kd.own_blk (Kd.R_ne HO291.out BK294.out (by decide)) | (rw [add_block]; exact Kd.own_blk (Kd.R_ne HO291.out BK294.out (by decide))) | (show (Addr.add _ _).block ≠ _; rw [add_block]; exact Kd.own_blk (Kd.R_ne HO291.out BK294.out (by decide))) | (dsimp only; exact Kd.own_blk (Kd.R_ne HO291.out BK294.out (by decide)))) _).trans (((cell_far (p := ⟨gb294, _, none⟩) (by first | exact Kd.own_blk (Kd.R_ne HO291.out BK294.out (by decide)) | (rw [add_block]; exact Kd.own_blk (Kd.R_ne HO291.out BK294.out (by decide))) | (show (Addr.add _ _).block ≠ _; rw [add_block]; exact Kd.own_blk (Kd.R_ne HO291.out BK294.out (by decide))) | (dsimp only; exact Kd.own_blk (Kd.R_ne HO291.out BK294.out (by decide)))) _).trans (((cell_far (p := ⟨gb294, _, none⟩) (by first | exact Kd.own_blk (Kd.R_ne HO291.out BK294.out (by decide)) | (rw [add_block]; exact Kd.own_blk (Kd.R_ne HO291.out BK294.out (by decide))) | (show (Addr.add _ _).block ≠ _; rw [add_block]; exact Kd.own_blk (Kd.R_ne HO291.out BK294.out (by decide))) | (dsimp only; exact Kd.own_blk (Kd.R_ne HO291.out BK294.out (by decide)))) _).trans (((cell_far (p := ⟨gb294, _, none⟩) (by first | exact Kd.own_blk (Kd.R_ne HO291.out BK294.out (by decide)) | (rw [add_block]; exact Kd.own_blk (Kd.R_ne HO291.out BK294.out (by decide))) | (show (Addr.add _ _).block ≠ _; rw [add_block]; exact Kd.own_blk (Kd.R_ne HO291.out BK294.out (by decide))) | (dsimp only; exact Kd.own_blk (Kd.R_ne HO291.out BK294.out (by decide)))) _).trans (hHeld.2.2.2.2))))))))⟩ (fun hHeld => ?_)
              clear hK K
              refine done_ (done_of HT_.out (by kernel_rfl)) ?_
              try go_wp2
              have n0_ : Aside0 (Kd.R (Kd.int .i64) 3 ((((w31.setCell ⟨gb294, 0, none⟩ (.int .i64 (Int.tmod (rd t289 0) t284))).setCell ⟨gb294, 1, none⟩ (.int .i64 (Int.tmod (rd t289 1) t285))).setCell ⟨gb294, 2, none⟩ (.int .i64 0)).setCell ⟨gb294, 3, none⟩ (.int .i64 0)) w.heap.size (fun _ => True) (.slice (some ad292) t289.length co30) t289) := ⟨by (with_reducible repeat (first | apply Kd.R_alloc | apply Kd.R_drewN | apply Kd.R_drew)); exact Kd.R_mono (Kd.R_far (p := ⟨gb294, 3, none⟩) (Kd.R_far (p := ⟨gb294, 2, none⟩) (Kd.R_far (p := ⟨gb294, 1, none⟩) (Kd.R_far (p := ⟨gb294, 0, none⟩) (Kd.R_types HO291.out BK294.out (by decide)) (fun _ hk => hk.2) (.int .i64 (Int.tmod (rd t289 0) t284))) (fun _ hk => hk.2) (.int .i64 (Int.tmod (rd t289 1) t285))) (fun _ hk => hk.2) (.int .i64 0)) (fun _ hk => hk.2) (.int .i64 0)) (fun _ hk => trivial)⟩
              have n1_ : Aside0 (((((w31.setCell ⟨gb294, 0, none⟩ (.int .i64 (Int.tmod (rd t289 0) t284))).setCell ⟨gb294, 1, none⟩ (.int .i64 (Int.tmod (rd t289 1) t285))).setCell ⟨gb294, 2, none⟩ (.int .i64 0)).setCell ⟨gb294, 3, none⟩ (.int .i64 0)).heap[gb287]? = some (.cells #[.int .i64 t281, .int .i64 t282, .string t283] 25 (0, 0))) := ⟨by (with_reducible repeat (first | refine blk_drewN ?_ _ | refine blk_drew ?_ | refine blk_alloc ?_ _)); refine blk_far ?_ NB287_294.out _; (with_reducible repeat (first | refine blk_drewN ?_ _ | refine blk_drew ?_ | refine blk_alloc ?_ _)); refine blk_far ?_ NB287_294.out _; (with_reducible repeat (first | refine blk_drewN ?_ _ | refine blk_drew ?_ | refine blk_alloc ?_ _)); refine blk_far ?_ NB287_294.out _; (with_reducible repeat (first | refine blk_drewN ?_ _ | refine blk_drew ?_ | refine blk_alloc ?_ _)); refine blk_far ?_ NB287_294.out _; (with_reducible repeat (first | refine blk_drewN ?_ _ | refine blk_drew ?_ | refine blk_alloc ?_ _)); exact BK287.out⟩
              have n2_ : Aside0 (((((w31.setCell ⟨gb294, 0, none⟩ (.int .i64 (Int.tmod (rd t289 0) t284))).setCell ⟨gb294, 1, none⟩ (.int .i64 (Int.tmod (rd t289 1) t285))).setCell ⟨gb294, 2, none⟩ (.int .i64 0)).setCell ⟨gb294, 3, none⟩ (.int .i64 0)).heap[gb288]? = some (.cells #[.int .i64 t284, .int .i64 t285, .string t286] 25 (0, 0))) := ⟨by (with_reducible repeat (first | refine blk_drewN ?_ _ | refine blk_drew ?_ | refine blk_alloc ?_ _)); refine blk_far ?_ NB288_294.out _; (with_reducible repeat (first | refine blk_drewN ?_ _ | refine blk_drew ?_ | refine blk_alloc ?_ _)); refine blk_far ?_ NB288_294.out _; (with_reducible repeat (first | refine blk_drewN ?_ _ | refine blk_drew ?_ | refine blk_alloc ?_ _)); refine blk_far ?_ NB288_294.out _; (with_reducible repeat (first | refine blk_drewN ?_ _ | refine blk_drew ?_ | refine blk_alloc ?_ _)); refine blk_far ?_ NB288_294.out _; (with_reducible repeat (first | refine blk_drewN ?_ _ | refine blk_drew ?_ | refine blk_alloc ?_ _)); exact BK288.out⟩
              have n3_ : Aside0 (((((w31.setCell ⟨gb294, 0, none⟩ (.int .i64 (Int.tmod (rd t289 0) t284))).setCell ⟨gb294, 1, none⟩ (.int .i64 (Int.tmod (rd t289 1) t285))).setCell ⟨gb294, 2, none⟩ (.int .i64 0)).setCell ⟨gb294, 3, none⟩ (.int .i64 0)).heap[gb294]? = some (.cells #[.int .i64 (Int.tmod (rd t289 0) t284), .int .i64 (Int.tmod (rd t289 1) t285), .int .i64 0, .int .i64 0] 38 (0, 0))) := ⟨by (with_reducible repeat (first | refine blk_drewN ?_ _ | refine blk_drew ?_ | refine blk_alloc ?_ _)); refine blk_put (cs := #[.int .i64 (Int.tmod (rd t289 0) t284), .int .i64 (Int.tmod (rd t289 1) t285), .int .i64 0, .int .i64 0]) ?_ 3 _ rfl; (with_reducible repeat (first | refine blk_drewN ?_ _ | refine blk_drew ?_ | refine blk_alloc ?_ _)); refine blk_put (cs := #[.int .i64 (Int.tmod (rd t289 0) t284), .int .i64 (Int.tmod (rd t289 1) t285), .int .i64 0, .int .i64 0]) ?_ 2 _ rfl; (with_reducible repeat (first | refine blk_drewN ?_ _ | refine blk_drew ?_ | refine blk_alloc ?_ _)); refine blk_put (cs := #[.int .i64 (Int.tmod (rd t289 0) t284), .int .i64 0, .int .i64 0, .int .i64 0]) ?_ 1 _ rfl; (with_reducible repeat (first | refine blk_drewN ?_ _ | refine blk_drew ?_ | refine blk_alloc ?_ _)); refine blk_put (cs := #[.int .i64 0, .int .i64 0, .int .i64 0, .int .i64 0]) ?_ 0 _ rfl; (with_reducible repeat (first | refine blk_drewN ?_ _ | refine blk_drew ?_ | refine blk_alloc ?_ _)); exact BK294.out⟩
              have n4_ : Aside0 (Below w.heap.size w ((((w31.setCell ⟨gb294, 0, none⟩ (.int .i64 (Int.tmod (rd t289 0) t284))).setCell ⟨gb294, 1, none⟩ (.int .i64 (Int.tmod (rd t289 1) t285))).setCell ⟨gb294, 2, none⟩ (.int .i64 0)).setCell ⟨gb294, 3, none⟩ (.int .i64 0))) := ⟨by repeat (first | (with_reducible first | exact HB.out | apply below_alloc | apply pw_below_drewN | apply below_drew1 | refine below_set ?_ GE287.out | refine below_set ?_ GE288.out | refine below_set ?_ GE294.out) | exact HB.out)⟩
              (try clear HO291)
              (try clear BK287)
              (try clear BK288)
              (try clear BK294)
              (try clear HB)
              generalize ((((w31.setCell ⟨gb294, 0, none⟩ (.int .i64 (Int.tmod (rd t289 0) t284))).setCell ⟨gb294, 1, none⟩ (.int .i64 (Int.tmod (rd t289 1) t285))).setCell ⟨gb294, 2, none⟩ (.int .i64 0)).setCell ⟨gb294, 3, none⟩ (.int .i64 0)) = w36 at n0_ n1_ n2_ n3_ n4_ ⊢
              have HO291 := n0_
              have BK287 := n1_
              have BK288 := n2_
              have BK294 := n3_
              have HB := n4_
              clear n0_ n1_ n2_ n3_ n4_
              have n0_ := Aside0.mk (Kd.R_drew HO291.out)
              have n1_ := Aside0.mk (blk_drew BK287.out)
              have n2_ := Aside0.mk (blk_drew BK288.out)
              have n3_ := Aside0.mk (blk_drew BK294.out)
              have n4_ := Aside0.mk (below_drew1 HB.out)
              clear HO291
              clear BK287
              clear BK288
              clear BK294
              clear HB
              have HO291 := n0_
              have BK287 := n1_
              have BK288 := n2_
              have BK294 := n3_
              have HB := n4_
              clear n0_ n1_ n2_ n3_ n4_
              have p295 : 0 ≤ (2 : Int) := (by omega)
              have q295 : 2 < (t289.length : Int) := of_decide_eq_true (by first | (with_reducible assumption) | assumption)
              obtain ⟨ad295, e295, hx295_0⟩ := Kd.at_int (Kd.R_reads' HO291.out).2.2 2 p295 q295
              obtain rfl : ad292 = ad295 := (by injection e295)
              (try simp only [show (2 : Int).toNat = 2 from rfl, Nat.reduceMul, Nat.reduceEqDiff, Go.Addr.add, ↓reduceIte] at hx295_0)
              have qi295 : (2 < t289.length) = True := eq_true (by omega)
              (try rw [show ((2 : Int)).toNat = 2 from rfl] at hx295_0)
              replace p295 := eq_true p295
              replace q295 := eq_true q295
              refine start_ (n := 12) (S := fun w' => w'.cell? ⟨gb288, 0, none⟩ = some (.int .i64 t284) ∧ w'.cell? ⟨gb288, 1, none⟩ = some (.int .i64 t285) ∧ w'.cell? ⟨gb288, 2, none⟩ = some (.string t286) ∧ w'.cell? ⟨gb294, 0, none⟩ = some (.int .i64 (Int.tmod (rd t289 0) t284)) ∧ w'.cell? ⟨gb294, 1, none⟩ = some (.int .i64 (Int.tmod (rd t289 1) t285)) ∧ w'.cell? ⟨gb294, 2, none⟩ = some (.int .i64 0) ∧ w'.cell? ⟨gb294, 3, none⟩ = some (.int .i64 0) ∧ w'.cell? ⟨ad292.block, ad292.off + 2, none⟩ = some (.int .i64 (rd t289 2))) (ds := [11]) #[Z,Z,Z,Z,Z,Z,Z,Z,Z,Z,Z,Z] (by kernel_rfl) rfl rfl ⟨(blk_cell BK288.out 0).trans rfl, (blk_cell BK288.out 1).trans rfl, (blk_cell BK288.out 2).trans rfl, (blk_cell BK294.out 0).trans rfl, (blk_cell BK294.out 1).trans rfl, (blk_cell BK294.out 2).trans rfl, (blk_cell BK294.out 3).trans rfl, hx295_0⟩ (fun hHeld => ?_); refine with_tabW laws_FnCuts.tab6 laws_FnCuts.bits6 (fun HT_ HW_ => ?_)
              generalize w36.drew = w37 at HO291 BK287 BK288 BK294 HB hx295_0 hHeld ⊢
              refine pure_ (i := 0) (N := some 39) (v := ?_) (a' := ?_) #[Y,Z,Z,Z,Z,Z,Z,Z,Z,Z,Z,Z] rfl rfl (any_of HT_.out (by kernel_rfl)) (fun _ _ _ h => h) (Or.inl ⟨by rfl, ?_⟩) ?_ ?_
              rotate_left
              ·intro w'
               go_simp
               with_reducible rfl
              rotate_left
              ·simp only [Act.put, List.setIfInBounds_toArray, List.set_cons_zero, List.set_cons_succ, i64_w, i32_w]
               rfl
              refine pure_ (i := 1) (N := some 40) (v := ?_) (a' := ?_) #[Y,Y,Z,Z,Z,Z,Z,Z,Z,Z,Z,Z] rfl rfl (any_of HT_.out (by kernel_rfl)) (fun _ _ _ h => h) (Or.inl ⟨by rfl, ?_⟩) ?_ ?_
              rotate_left
              ·intro w'
               go_simp
               with_reducible rfl
              rotate_left
              ·simp only [Act.put, List.setIfInBounds_toArray, List.set_cons_zero, List.set_cons_succ, i64_w, i32_w]
               rfl
              refine pure_ (i := 3) (N := some 42) (v := ?_) (a' := ?_) #[Y,Y,Z,Y,Z,Z,Z,Z,Z,Z,Z,Z] rfl rfl (any_of HT_.out (by kernel_rfl)) (fun _ _ _ h => h) (Or.inl ⟨by rfl, ?_⟩) ?_ ?_
              rotate_left
              ·intro w'
               go_simp
               with_reducible rfl
              rotate_left
              ·simp only [Act.put, List.setIfInBounds_toArray, List.set_cons_zero, List.set_cons_succ, i64_w, i32_w]
               rfl
              refine pure_ (i := 5) (N := some 44) (v := ?_) (a' := ?_) #[Y,Y,Z,Y,Z,Y,Z,Z,Z,Z,Z,Z] rfl rfl (any_of HT_.out (by kernel_rfl)) (fun _ _ _ h => h) (Or.inl ⟨by rfl, ?_⟩) ?_ ?_
              rotate_left
              ·intro w'
               go_simp
               with_reducible rfl
              rotate_left
              ·simp only [Act.put, List.setIfInBounds_toArray, List.set_cons_zero, List.set_cons_succ, i64_w, i32_w]
               rfl
              refine take_ (i := 2) (N := some 41) (v := ?_) (a' := ?_) #[Y,Y,Y,Y,Z,Y,Z,Z,Z,Z,Z,Z] rfl rfl (take_ofW HT_.out HW_.out (by kernel_rfl)) (fun _ _ _ h => h) (Or.inl ⟨by rfl, ?_⟩) hHeld ?_ ?_
              rotate_left
              ·rintro w' ⟨s0, s1, s2, s3, s4, s5, s6, s7⟩
               go_simp
               with_reducible rfl
              rotate_left
              ·simp only [Act.put, List.setIfInBounds_toArray, List.set_cons_zero, List.set_cons_succ, i64_w, i32_w]
               rfl
              refine take_ (i := 4) (N := some 43) (v := ?_) (a' := ?_) #[Y,Y,Y,Y,Y,Y,Z,Z,Z,Z,Z,Z] rfl rfl (take_ofW HT_.out HW_.out (by kernel_rfl)) (fun _ _ _ h => h) (Or.inl ⟨by rfl, ?_⟩) hHeld ?_ ?_
              rotate_left
              ·rintro w' ⟨s0, s1, s2, s3, s4, s5, s6, s7⟩
               go_simp
               with_reducible rfl
              rotate_left
              ·simp only [Act.put, List.setIfInBounds_toArray, List.set_cons_zero, List.set_cons_succ, i64_w, i32_w]
               rfl
              refine take_ (i := 6) (N := some 45) (v := ?_) (a' := ?_) #[Y,Y,Y,Y,Y,Y,Y,Z,Z,Z,Z,Z] rfl rfl (take_ofW HT_.out HW_.out (by kernel_rfl)) (fun _ _ _ h => h) (Or.inl ⟨by rfl, ?_⟩) hHeld ?_ ?_
              rotate_left
              ·rintro w' ⟨s0, s1, s2, s3, s4, s5, s6, s7⟩
               go_simp
               with_reducible rfl
              rotate_left
              ·simp only [Act.put, List.setIfInBounds_toArray, List.set_cons_zero, List.set_cons_succ, i64_w, i32_w]
               rfl
              refine pure_ (i := 7) (N := some 46) (v := ?_) (a' := ?_) #[Y,Y,Y,Y,Y,Y,Y,Y,Z,Z,Z,Z] rfl rfl (any_of HT_.out (by kernel_rfl)) (fun _ _ _ h => h) (Or.inl ⟨by rfl, ?_⟩) ?_ ?_
              rotate_left
              ·intro w'
               go_simp
               with_reducible rfl
              rotate_left
              ·simp only [Act.put, List.setIfInBounds_toArray, List.set_cons_zero, List.set_cons_succ, i64_w, i32_w]
               rfl
              refine pure_ (i := 8) (N := some 47) (v := ?_) (a' := ?_) #[Y,Y,Y,Y,Y,Y,Y,Y,Y,Z,Z,Z] rfl rfl (any_of HT_.out (by kernel_rfl)) (fun _ _ _ h => h) (Or.inl ⟨by rfl, ?_⟩) ?_ ?_
              rotate_left
              ·intro w'
               go_simp
               with_reducible rfl
              rotate_left
              ·simp only [Act.put, List.setIfInBounds_toArray, List.set_cons_zero, List.set_cons_succ, i64_w, i32_w]
               rfl
              refine pure_ (i := 9) (N := some 48) (v := ?_) (a' := ?_) #[Y,Y,Y,Y,Y,Y,Y,Y,Y,Y,Z,Z] rfl rfl (any_of HT_.out (by kernel_rfl)) (fun _ _ _ h => h) (Or.inl ⟨by rfl, ?_⟩) ?_ ?_
              rotate_left
              ·intro w'
               go_simp
               with_reducible rfl
              rotate_left
              ·simp only [Act.put, List.setIfInBounds_toArray, List.set_cons_zero, List.set_cons_succ, i64_w, i32_w]
               rfl
              refine pure_ (i := 10) (N := some 49) (v := ?_) (a' := ?_) #[Y,Y,Y,Y,Y,Y,Y,Y,Y,Y,Y,Z] rfl rfl (any_of HT_.out (by kernel_rfl)) (fun _ _ _ h => h) (Or.inl ⟨by rfl, ?_⟩) ?_ ?_
              rotate_left
              ·intro w'
               go_simp
               with_reducible rfl
              rotate_left
              ·simp only [Act.put, List.setIfInBounds_toArray, List.set_cons_zero, List.set_cons_succ, i64_w, i32_w]
               rfl
              refine last_ (i := 11) (N := none) #[Y,Y,Y,Y,Y,Y,Y,Y,Y,Y,Y,Y] rfl rfl (one_of HT_.out (by kernel_rfl)) (by decide) (fun K hK => ?_)
              have hs38 : w37.cell? ⟨gb294, 2, none⟩ = some (.int .i64 0) := (blk_cell BK294.out 2).trans rfl
              have hfs38 := blk_frozen BK294.out 2
              have hns38_0 := NB287_294.out
              have hns38_1 := NB288_294.out
              have hms38_0 := NB294_287.out
              have hms38_1 := NB294_288.out
              refine skip_ (w1 := ?_) (by rfl) rfl ?_ ?_
              rotate_left
              ·go_simp
               rfl
              refine hK.out _ _ ?_
              clear hK K
              refine done_ (done_of HT_.out (by kernel_rfl)) ?_
              try go_wp2
              have n0_ : Aside0 (Kd.R (Kd.int .i64) 3 (w37.setCell ⟨gb294, 2, none⟩ (.int .i64 (wrap64 (1 + (Int.tmod (rd t289 2) (wrap64 (t284 - (Int.tmod (rd t289 0) t284)))))))) w.heap.size (fun _ => True) (.slice (some ad292) t289.length co30) t289) := ⟨by (with_reducible repeat (first | apply Kd.R_alloc | apply Kd.R_drewN | apply Kd.R_drew)); exact Kd.R_mono (Kd.R_far (p := ⟨gb294, 2, none⟩) (Kd.R_types HO291.out BK294.out (by decide)) (fun _ hk => hk.2) (.int .i64 (wrap64 (1 + (Int.tmod (rd t289 2) (wrap64 (t284 - (Int.tmod (rd t289 0) t284)))))))) (fun _ hk => trivial)⟩
              have n1_ : Aside0 ((w37.setCell ⟨gb294, 2, none⟩ (.int .i64 (wrap64 (1 + (Int.tmod (rd t289 2) (wrap64 (t284 - (Int.tmod (rd t289 0) t284)))))))).heap[gb287]? = some (.cells #[.int .i64 t281, .int .i64 t282, .string t283] 25 (0, 0))) := ⟨by (with_reducible repeat (first | refine blk_drewN ?_ _ | refine blk_drew ?_ | refine blk_alloc ?_ _)); refine blk_far ?_ NB287_294.out _; (with_reducible repeat (first | refine blk_drewN ?_ _ | refine blk_drew ?_ | refine blk_alloc ?_ _)); exact BK287.out⟩
              have n2_ : Aside0 ((w37.setCell ⟨gb294, 2, none⟩ (.int .i64 (wrap64 (1 + (Int.tmod (rd t289 2) (wrap64 (t284 - (Int.tmod (rd t289 0) t284)))))))).heap[gb288]? = some (.cells #[.int .i64 t284, .int .i64 t285, .string t286] 25 (0, 0))) := ⟨by (with_reducible repeat (first | refine blk_drewN ?_ _ | refine blk_drew ?_ | refine blk_alloc ?_ _)); refine blk_far ?_ NB288_294.out _; (with_reducible repeat (first | refine blk_drewN ?_ _ | refine blk_drew ?_ | refine blk_alloc ?_ _)); exact BK288.out⟩
              have n3_ : Aside0 ((w37.setCell ⟨gb294, 2, none⟩ (.int .i64 (wrap64 (1 + (Int.tmod (rd t289 2) (wrap64 (t284 - (Int.tmod (rd t289 0) t284)))))))).heap[gb294]? = some (.cells #[.int .i64 (Int.tmod (rd t289 0) t284), .int .i64 (Int.tmod (rd t289 1) t285), .int .i64 (wrap64 (1 + (Int.tmod (rd t289 2) (wrap64 (t284 - (Int.tmod (rd t289 0) t284)))))), .int .i64 0] 38 (0, 0))) := ⟨by (with_reducible repeat (first | refine blk_drewN ?_ _ | refine blk_drew ?_ | refine blk_alloc ?_ _)); refine blk_put (cs := #[.int .i64 (Int.tmod (rd t289 0) t284), .int .i64 (Int.tmod (rd t289 1) t285), .int .i64 0, .int .i64 0]) ?_ 2 _ rfl; (with_reducible repeat (first | refine blk_drewN ?_ _ | refine blk_drew ?_ | refine blk_alloc ?_ _)); exact BK294.out⟩
              have n4_ : Aside0 (Below w.heap.size w (w37.setCell ⟨gb294, 2, none⟩ (.int .i64 (wrap64 (1 + (Int.tmod (rd t289 2) (wrap64 (t284 - (Int.tmod (rd t289 0) t284))))))))) := ⟨by repeat (first | (with_reducible first | exact HB.out | apply below_alloc | apply pw_below_drewN | apply below_drew1 | refine below_set ?_ GE287.out | refine below_set ?_ GE288.out | refine below_set ?_ GE294.out) | exact HB.out)⟩
              (try clear HO291)
              (try clear BK287)
              (try clear BK288)
              (try clear BK294)
              (try clear HB)
              generalize (w37.setCell ⟨gb294, 2, none⟩ (.int .i64 (wrap64 (1 + (Int.tmod (rd t289 2) (wrap64 (t284 - (Int.tmod (rd t289 0) t284)))))))) = w39 at n0_ n1_ n2_ n3_ n4_ ⊢
              have HO291 := n0_
              have BK287 := n1_
              have BK288 := n2_
              have BK294 := n3_
              have HB := n4_
              clear n0_ n1_ n2_ n3_ n4_
              have n0_ := Aside0.mk (Kd.R_drew HO291.out)
              have n1_ := Aside0.mk (blk_drew BK287.out)
              have n2_ := Aside0.mk (blk_drew BK288.out)
              have n3_ := Aside0.mk (blk_drew BK294.out)
              have n4_ := Aside0.mk (below_drew1 HB.out)
              clear HO291
              clear BK287
              clear BK288
              clear BK294
              clear HB
              have HO291 := n0_
              have BK287 := n1_
              have BK288 := n2_
              have BK294 := n3_
              have HB := n4_
              clear n0_ n1_ n2_ n3_ n4_
              have p296 : 0 ≤ (3 : Int) := (by omega)
              have q296 : 3 < (t289.length : Int) := of_decide_eq_true (by first | (with_reducible assumption) | assumption)
              obtain ⟨ad296, e296, hx296_0⟩ := Kd.at_int (Kd.R_reads' HO291.out).2.2 3 p296 q296
              obtain rfl : ad292 = ad296 := (by injection e296)
              (try simp only [show (3 : Int).toNat = 3 from rfl, Nat.reduceMul, Nat.reduceEqDiff, Go.Addr.add, ↓reduceIte] at hx296_0)
              have qi296 : (3 < t289.length) = True := eq_true (by omega)
              (try rw [show ((3 : Int)).toNat = 3 from rfl] at hx296_0)
              replace p296 := eq_true p296
              replace q296 := eq_true q296
              refine start_ (n := 12) (S := fun w' => w'.cell? ⟨gb288, 0, none⟩ = some (.int .i64 t284) ∧ w'.cell? ⟨gb288, 1, none⟩ = some (.int .i64 t285) ∧ w'.cell? ⟨gb288, 2, none⟩ = some (.string t286) ∧ w'.cell? ⟨gb294, 0, none⟩ = some (.int .i64 (Int.tmod (rd t289 0) t284)) ∧ w'.cell? ⟨gb294, 1, none⟩ = some (.int .i64 (Int.tmod (rd t289 1) t285)) ∧ w'.cell? ⟨gb294, 2, none⟩ = some (.int .i64 (wrap64 (1 + (Int.tmod (rd t289 2) (wrap64 (t284 - (Int.tmod (rd t289 0) t284))))))) ∧ w'.cell? ⟨gb294, 3, none⟩ = some (.int .i64 0) ∧ w'.cell? ⟨ad292.block, ad292.off + 3, none⟩ = some (.int .i64 (rd t289 3))) (ds := [11]) #[Z,Z,Z,Z,Z,Z,Z,Z,Z,Z,Z,Z] (by kernel_rfl) rfl rfl ⟨(blk_cell BK288.out 0).trans rfl, (blk_cell BK288.out 1).trans rfl, (blk_cell BK288.out 2).trans rfl, (blk_cell BK294.out 0).trans rfl, (blk_cell BK294.out 1).trans rfl, (blk_cell BK294.out 2).trans rfl, (blk_cell BK294.out 3).trans rfl, hx296_0⟩ (fun hHeld => ?_); refine with_tabW laws_FnCuts.tab7 laws_FnCuts.bits7 (fun HT_ HW_ => ?_)
              generalize w39.drew = w40 at HO291 BK287 BK288 BK294 HB hx296_0 hHeld ⊢
              refine pure_ (i := 0) (N := some 50) (v := ?_) (a' := ?_) #[Y,Z,Z,Z,Z,Z,Z,Z,Z,Z,Z,Z] rfl rfl (any_of HT_.out (by kernel_rfl)) (fun _ _ _ h => h) (Or.inl ⟨by rfl, ?_⟩) ?_ ?_
              rotate_left
              ·intro w'
               go_simp
               with_reducible rfl
              rotate_left
              ·simp only [Act.put, List.setIfInBounds_toArray, List.set_cons_zero, List.set_cons_succ, i64_w, i32_w]
               rfl
              refine pure_ (i := 1) (N := some 51) (v := ?_) (a' := ?_) #[Y,Y,Z,Z,Z,Z,Z,Z,Z,Z,Z,Z] rfl rfl (any_of HT_.out (by kernel_rfl)) (fun _ _ _ h => h) (Or.inl ⟨by rfl, ?_⟩) ?_ ?_
              rotate_left
              ·intro w'
               go_simp
               with_reducible rfl
              rotate_left
              ·simp only [Act.put, List.setIfInBounds_toArray, List.set_cons_zero, List.set_cons_succ, i64_w, i32_w]
               rfl
              refine pure_ (i := 3) (N := some 53) (v := ?_) (a' := ?_) #[Y,Y,Z,Y,Z,Z,Z,Z,Z,Z,Z,Z] rfl rfl (any_of HT_.out (by kernel_rfl)) (fun _ _ _ h => h) (Or.inl ⟨by rfl, ?_⟩) ?_ ?_
              rotate_left
              ·intro w'
               go_simp
               with_reducible rfl
              rotate_left
              ·simp only [Act.put, List.setIfInBounds_toArray, List.set_cons_zero, List.set_cons_succ, i64_w, i32_w]
               rfl
              refine pure_ (i := 5) (N := some 55) (v := ?_) (a' := ?_) #[Y,Y,Z,Y,Z,Y,Z,Z,Z,Z,Z,Z] rfl rfl (any_of HT_.out (by kernel_rfl)) (fun _ _ _ h => h) (Or.inl ⟨by rfl, ?_⟩) ?_ ?_
              rotate_left
              ·intro w'
               go_simp
               with_reducible rfl
              rotate_left
              ·simp only [Act.put, List.setIfInBounds_toArray, List.set_cons_zero, List.set_cons_succ, i64_w, i32_w]
               rfl
              refine take_ (i := 2) (N := some 52) (v := ?_) (a' := ?_) #[Y,Y,Y,Y,Z,Y,Z,Z,Z,Z,Z,Z] rfl rfl (take_ofW HT_.out HW_.out (by kernel_rfl)) (fun _ _ _ h => h) (Or.inl ⟨by rfl, ?_⟩) hHeld ?_ ?_
              rotate_left
              ·rintro w' ⟨s0, s1, s2, s3, s4, s5, s6, s7⟩
               go_simp
               with_reducible rfl
              rotate_left
              ·simp only [Act.put, List.setIfInBounds_toArray, List.set_cons_zero, List.set_cons_succ, i64_w, i32_w]
               rfl
              refine take_ (i := 4) (N := some 54) (v := ?_) (a' := ?_) #[Y,Y,Y,Y,Y,Y,Z,Z,Z,Z,Z,Z] rfl rfl (take_ofW HT_.out HW_.out (by kernel_rfl)) (fun _ _ _ h => h) (Or.inl ⟨by rfl, ?_⟩) hHeld ?_ ?_
              rotate_left
              ·rintro w' ⟨s0, s1, s2, s3, s4, s5, s6, s7⟩
               go_simp
               with_reducible rfl
              rotate_left
              ·simp only [Act.put, List.setIfInBounds_toArray, List.set_cons_zero, List.set_cons_succ, i64_w, i32_w]
               rfl
              refine take_ (i := 6) (N := some 56) (v := ?_) (a' := ?_) #[Y,Y,Y,Y,Y,Y,Y,Z,Z,Z,Z,Z] rfl rfl (take_ofW HT_.out HW_.out (by kernel_rfl)) (fun _ _ _ h => h) (Or.inl ⟨by rfl, ?_⟩) hHeld ?_ ?_
              rotate_left
              ·rintro w' ⟨s0, s1, s2, s3, s4, s5, s6, s7⟩
               go_simp
               with_reducible rfl
              rotate_left
              ·simp only [Act.put, List.setIfInBounds_toArray, List.set_cons_zero, List.set_cons_succ, i64_w, i32_w]
               rfl
              refine pure_ (i := 7) (N := some 57) (v := ?_) (a' := ?_) #[Y,Y,Y,Y,Y,Y,Y,Y,Z,Z,Z,Z] rfl rfl (any_of HT_.out (by kernel_rfl)) (fun _ _ _ h => h) (Or.inl ⟨by rfl, ?_⟩) ?_ ?_
              rotate_left
              ·intro w'
               go_simp
               with_reducible rfl
              rotate_left
              ·simp only [Act.put, List.setIfInBounds_toArray, List.set_cons_zero, List.set_cons_succ, i64_w, i32_w]
               rfl
              refine pure_ (i := 8) (N := some 58) (v := ?_) (a' := ?_) #[Y,Y,Y,Y,Y,Y,Y,Y,Y,Z,Z,Z] rfl rfl (any_of HT_.out (by kernel_rfl)) (fun _ _ _ h => h) (Or.inl ⟨by rfl, ?_⟩) ?_ ?_
              rotate_left
              ·intro w'
               go_simp
               with_reducible rfl
              rotate_left
              ·simp only [Act.put, List.setIfInBounds_toArray, List.set_cons_zero, List.set_cons_succ, i64_w, i32_w]
               rfl
              refine pure_ (i := 9) (N := some 59) (v := ?_) (a' := ?_) #[Y,Y,Y,Y,Y,Y,Y,Y,Y,Y,Z,Z] rfl rfl (any_of HT_.out (by kernel_rfl)) (fun _ _ _ h => h) (Or.inl ⟨by rfl, ?_⟩) ?_ ?_
              rotate_left
              ·intro w'
               go_simp
               with_reducible rfl
              rotate_left
              ·simp only [Act.put, List.setIfInBounds_toArray, List.set_cons_zero, List.set_cons_succ, i64_w, i32_w]
               rfl
              refine pure_ (i := 10) (N := some 60) (v := ?_) (a' := ?_) #[Y,Y,Y,Y,Y,Y,Y,Y,Y,Y,Y,Z] rfl rfl (any_of HT_.out (by kernel_rfl)) (fun _ _ _ h => h) (Or.inl ⟨by rfl, ?_⟩) ?_ ?_
              rotate_left
              ·intro w'
               go_simp
               with_reducible rfl
              rotate_left
              ·simp only [Act.put, List.setIfInBounds_toArray, List.set_cons_zero, List.set_cons_succ, i64_w, i32_w]
               rfl
              refine last_ (i := 11) (N := none) #[Y,Y,Y,Y,Y,Y,Y,Y,Y,Y,Y,Y] rfl rfl (one_of HT_.out (by kernel_rfl)) (by decide) (fun K hK => ?_)
              have hs41 : w40.cell? ⟨gb294, 3, none⟩ = some (.int .i64 0) := (blk_cell BK294.out 3).trans rfl
              have hfs41 := blk_frozen BK294.out 3
              have hns41_0 := NB287_294.out
              have hns41_1 := NB288_294.out
              have hms41_0 := NB294_287.out
              have hms41_1 := NB294_288.out
              refine skip_ (w1 := ?_) (by rfl) rfl ?_ ?_
              rotate_left
              ·go_simp
               rfl
              refine hK.out _ _ ?_
              clear hK K
              refine done_ (done_of HT_.out (by kernel_rfl)) ?_
              have hnb42 := NB288_294.out
              have hnc42 := NB294_288.out
              have hcz43_0 : w40.cell? ⟨gb288, 0, none⟩ = some (.int .i64 t284) := (blk_cell BK288.out 0).trans rfl
              have hcz43_1 : w40.cell? ⟨gb288, 1, none⟩ = some (.int .i64 t285) := (blk_cell BK288.out 1).trans rfl
              have hcz43_2 : w40.cell? ⟨gb288, 2, none⟩ = some (.string t286) := (blk_cell BK288.out 2).trans rfl
              have hfz43_0 := blk_frozen BK288.out 0
              have hfz43_1 := blk_frozen BK288.out 1
              have hfz43_2 := blk_frozen BK288.out 2
              have hnb44 := NB294_287.out
              have hnc44 := NB287_294.out
              have hcz45_0 : w40.cell? ⟨gb294, 0, none⟩ = some (.int .i64 (Int.tmod (rd t289 0) t284)) := (blk_cell BK294.out 0).trans rfl
              have hcz45_1 : w40.cell? ⟨gb294, 1, none⟩ = some (.int .i64 (Int.tmod (rd t289 1) t285)) := (blk_cell BK294.out 1).trans rfl
              have hcz45_2 : w40.cell? ⟨gb294, 2, none⟩ = some (.int .i64 (wrap64 (1 + (Int.tmod (rd t289 2) (wrap64 (t284 - (Int.tmod (rd t289 0) t284))))))) := (blk_cell BK294.out 2).trans rfl
              have hcz45_3 : w40.cell? ⟨gb294, 3, none⟩ = some (.int .i64 0) := (blk_cell BK294.out 3).trans rfl
              have hfz45_0 := blk_frozen BK294.out 0
              have hfz45_1 := blk_frozen BK294.out 1
              have hfz45_2 := blk_frozen BK294.out 2
              have hfz45_3 := blk_frozen BK294.out 3
              try go_wp2_with (first | ((with_reducible refine gate_callee (f := 17) rfl ?_); refine goesL_ (some 64) rfl rfl Try.func17 (by kernel_rfl) rfl #[.agg #[.int .i64 t284, .int .i64 t285, .string t286], .agg #[.int .i64 (Int.tmod (rd t289 0) t284), .int .i64 (Int.tmod (rd t289 1) t285), .int .i64 (wrap64 (1 + (Int.tmod (rd t289 2) (wrap64 (t284 - (Int.tmod (rd t289 0) t284)))))), .int .i64 (wrap64 (1 + (Int.tmod (rd t289 3) (wrap64 (t285 - (Int.tmod (rd t289 1) t285))))))]] rfl (by (try simp only [List.map_toArray, List.map_cons, List.map_nil]); first | done | rfl | (simp only [List.length_drop, List.length_take]; rfl)) ?_; (with_reducible refine (impl_CutOf.calls k t284 t285 t286 (Int.tmod (rd t289 0) t284) (Int.tmod (rd t289 1) t285) (wrap64 (1 + (Int.tmod (rd t289 2) (wrap64 (t284 - (Int.tmod (rd t289 0) t284)))))) (wrap64 (1 + (Int.tmod (rd t289 3) (wrap64 (t285 - (Int.tmod (rd t289 1) t285)))))) t297 t298 t299 t300 _ A14.out).mono ?_); rintro e w46 ⟨rfl, hb⟩; refine ⟨_, rfl, ?_⟩; have n0_ := Aside0.mk (Kd.R_below (by (with_reducible repeat (first | apply Kd.R_alloc | apply Kd.R_drewN | apply Kd.R_drew)); exact (Kd.R_mono (Kd.R_far (p := ⟨gb294, 3, none⟩) (Kd.R_types HO291.out BK294.out (by decide)) (fun _ hk => hk.2) (.int .i64 (wrap64 (1 + (Int.tmod (rd t289 3) (wrap64 (t285 - (Int.tmod (rd t289 1) t285)))))))) (fun _ h_ => h_.1))) hb); have n1_ := Aside0.mk (blk_below (g := gb287) (o := .cells #[.int .i64 t281, .int .i64 t282, .string t283] 25 (0, 0)) (by (with_reducible repeat (first | refine blk_drewN ?_ _ | refine blk_drew ?_ | refine blk_alloc ?_ _)); refine blk_far ?_ NB287_294.out _; (with_reducible repeat (first | refine blk_drewN ?_ _ | refine blk_drew ?_ | refine blk_alloc ?_ _)); exact BK287.out) hb); have n2_ := Aside0.mk (blk_below (g := gb288) (o := .cells #[.int .i64 t284, .int .i64 t285, .string t286] 25 (0, 0)) (by (with_reducible repeat (first | refine blk_drewN ?_ _ | refine blk_drew ?_ | refine blk_alloc ?_ _)); refine blk_far ?_ NB288_294.out _; (with_reducible repeat (first | refine blk_drewN ?_ _ | refine blk_drew ?_ | refine blk_alloc ?_ _)); exact BK288.out) hb); have n3_ := Aside0.mk (blk_below (g := gb294) (o := .cells #[.int .i64 (Int.tmod (rd t289 0) t284), .int .i64 (Int.tmod (rd t289 1) t285), .int .i64 (wrap64 (1 + (Int.tmod (rd t289 2) (wrap64 (t284 - (Int.tmod (rd t289 0) t284)))))), .int .i64 (wrap64 (1 + (Int.tmod (rd t289 3) (wrap64 (t285 - (Int.tmod (rd t289 1) t285))))))] 38 (0, 0)) (by (with_reducible repeat (first | refine blk_drewN ?_ _ | refine blk_drew ?_ | refine blk_alloc ?_ _)); refine blk_put (cs := #[.int .i64 (Int.tmod (rd t289 0) t284), .int .i64 (Int.tmod (rd t289 1) t285), .int .i64 (wrap64 (1 + (Int.tmod (rd t289 2) (wrap64 (t284 - (Int.tmod (rd t289 0) t284)))))), .int .i64 0]) ?_ 3 _ rfl; (with_reducible repeat (first | refine blk_drewN ?_ _ | refine blk_drew ?_ | refine blk_alloc ?_ _)); exact BK294.out) hb); have n4_ := Aside0.mk (below_step (by repeat (first | (with_reducible first | exact HB.out | apply below_alloc | apply pw_below_drewN | apply below_drew1 | refine below_set ?_ GE287.out | refine below_set ?_ GE288.out | refine below_set ?_ GE294.out) | exact HB.out)) hb); clear HO291; clear BK287; clear BK288; clear BK294; clear HB; have HO291 := n0_; have BK287 := n1_; have BK288 := n2_; have BK294 := n3_; have HB := n4_; clear n0_ n1_ n2_ n3_ n4_; (try clear hb); (try clear hb2); (try clear hk); (try clear hi)) | ((with_reducible refine gate_dst (N := 7) rfl ?_); refine box_event ?hg (N := 7) ?hd (cs := #[.int .i64 0, .int .i64 0, .string (⟨#[]⟩ : ByteArray)]) (t := 25) ?hr ?_; (case hd => rfl); (case hg => rfl); (case hr => first | (go_simp; done) | (go_simp; rfl)); intro gb301 hg w47 hbox hb; have n0_ := Aside0.mk (Kd.R_below (by (with_reducible repeat (first | apply Kd.R_alloc | apply Kd.R_drewN | apply Kd.R_drew)); exact HO291.out) hb); have n1_ := Aside0.mk (blk_below (g := gb287) (o := .cells #[.int .i64 t281, .int .i64 t282, .string t283] 25 (0, 0)) (by (with_reducible repeat (first | refine blk_drewN ?_ _ | refine blk_drew ?_ | refine blk_alloc ?_ _)); exact BK287.out) hb); have n2_ := Aside0.mk (blk_below (g := gb288) (o := .cells #[.int .i64 t284, .int .i64 t285, .string t286] 25 (0, 0)) (by (with_reducible repeat (first | refine blk_drewN ?_ _ | refine blk_drew ?_ | refine blk_alloc ?_ _)); exact BK288.out) hb); have n3_ := Aside0.mk (blk_below (g := gb294) (o := .cells #[.int .i64 (Int.tmod (rd t289 0) t284), .int .i64 (Int.tmod (rd t289 1) t285), .int .i64 (wrap64 (1 + (Int.tmod (rd t289 2) (wrap64 (t284 - (Int.tmod (rd t289 0) t284)))))), .int .i64 (wrap64 (1 + (Int.tmod (rd t289 3) (wrap64 (t285 - (Int.tmod (rd t289 1) t285))))))] 38 (0, 0)) (by (with_reducible repeat (first | refine blk_drewN ?_ _ | refine blk_drew ?_ | refine blk_alloc ?_ _)); exact BK294.out) hb); have n4_ := Aside0.mk (below_step (by repeat (first | (with_reducible first | exact HB.out | apply below_alloc | apply pw_below_drewN | apply below_drew1 | refine below_set ?_ GE287.out | refine below_set ?_ GE288.out | refine below_set ?_ GE294.out) | exact HB.out)) hb); have n5_ := Aside0.mk (hbox); have n6_ := Aside0.mk ((by rw [hg]; exact (below_size (by repeat (first | (with_reducible first | exact HB.out | apply below_alloc | apply pw_below_drewN | apply below_drew1 | refine below_set ?_ GE287.out | refine below_set ?_ GE288.out | refine below_set ?_ GE294.out) | exact HB.out))) : w.heap.size ≤ gb301)); have n7_ := Aside0.mk ((by rw [hg]; exact (below_size (by repeat (first | (with_reducible first | exact HB.out | apply below_alloc | apply pw_below_drewN | apply below_drew1 | refine below_set ?_ GE287.out | refine below_set ?_ GE288.out | refine below_set ?_ GE294.out) | exact HB.out))) : w.heap.size ≤ gb301)); have n8_ := Aside0.mk ((by rw [hg]; exact Nat.ne_of_lt (blk_lt (g := gb287) (o := .cells #[.int .i64 t281, .int .i64 t282, .string t283] 25 (0, 0)) (by (with_reducible repeat (first | refine blk_drewN ?_ _ | refine blk_drew ?_ | refine blk_alloc ?_ _)); exact BK287.out)) : gb287 ≠ gb301)); have n9_ := Aside0.mk ((by rw [hg]; exact Nat.ne_of_gt (blk_lt (g := gb287) (o := .cells #[.int .i64 t281, .int .i64 t282, .string t283] 25 (0, 0)) (by (with_reducible repeat (first | refine blk_drewN ?_ _ | refine blk_drew ?_ | refine blk_alloc ?_ _)); exact BK287.out)) : gb301 ≠ gb287)); have n10_ := Aside0.mk ((by rw [hg]; exact Nat.ne_of_lt (blk_lt (g := gb288) (o := .cells #[.int .i64 t284, .int .i64 t285, .string t286] 25 (0, 0)) (by (with_reducible repeat (first | refine blk_drewN ?_ _ | refine blk_drew ?_ | refine blk_alloc ?_ _)); exact BK288.out)) : gb288 ≠ gb301)); have n11_ := Aside0.mk ((by rw [hg]; exact Nat.ne_of_gt (blk_lt (g := gb288) (o := .cells #[.int .i64 t284, .int .i64 t285, .string t286] 25 (0, 0)) (by (with_reducible repeat (first | refine blk_drewN ?_ _ | refine blk_drew ?_ | refine blk_alloc ?_ _)); exact BK288.out)) : gb301 ≠ gb288)); have n12_ := Aside0.mk ((by rw [hg]; exact Nat.ne_of_lt (blk_lt (g := gb294) (o := .cells #[.int .i64 (Int.tmod (rd t289 0) t284), .int .i64 (Int.tmod (rd t289 1) t285), .int .i64 (wrap64 (1 + (Int.tmod (rd t289 2) (wrap64 (t284 - (Int.tmod (rd t289 0) t284)))))), .int .i64 (wrap64 (1 + (Int.tmod (rd t289 3) (wrap64 (t285 - (Int.tmod (rd t289 1) t285))))))] 38 (0, 0)) (by (with_reducible repeat (first | refine blk_drewN ?_ _ | refine blk_drew ?_ | refine blk_alloc ?_ _)); exact BK294.out)) : gb294 ≠ gb301)); have n13_ := Aside0.mk ((by rw [hg]; exact Nat.ne_of_gt (blk_lt (g := gb294) (o := .cells #[.int .i64 (Int.tmod (rd t289 0) t284), .int .i64 (Int.tmod (rd t289 1) t285), .int .i64 (wrap64 (1 + (Int.tmod (rd t289 2) (wrap64 (t284 - (Int.tmod (rd t289 0) t284)))))), .int .i64 (wrap64 (1 + (Int.tmod (rd t289 3) (wrap64 (t285 - (Int.tmod (rd t289 1) t285))))))] 38 (0, 0)) (by (with_reducible repeat (first | refine blk_drewN ?_ _ | refine blk_drew ?_ | refine blk_alloc ?_ _)); exact BK294.out)) : gb301 ≠ gb294)); clear HO291; clear BK287; clear BK288; clear BK294; clear HB; have HO291 := n0_; have BK287 := n1_; have BK288 := n2_; have BK294 := n3_; have HB := n4_; have BK301 := n5_; have GW301 := n6_; have GE301 := n7_; have NB287_301 := n8_; have NB301_287 := n9_; have NB288_301 := n10_; have NB301_288 := n11_; have NB294_301 := n12_; have NB301_294 := n13_; clear n0_ n1_ n2_ n3_ n4_ n5_ n6_ n7_ n8_ n9_ n10_ n11_ n12_ n13_; clear hb hbox hg; have hnb48 := NB301_287.out; have hnc48 := NB287_301.out; have hnb49 := NB301_288.out; have hnc49 := NB288_301.out; have hnb50 := NB301_294.out; have hnc50 := NB294_301.out; have hcz51_0 : w47.cell? ⟨gb301, 0, none⟩ = some (.int .i64 0) := (blk_cell BK301.out 0).trans rfl; have hcz51_1 : w47.cell? ⟨gb301, 1, none⟩ = some (.int .i64 0) := (blk_cell BK301.out 1).trans rfl; have hcz51_2 : w47.cell? ⟨gb301, 2, none⟩ = some (.string (⟨#[]⟩ : ByteArray)) := (blk_cell BK301.out 2).trans rfl; have hfz51_0 := blk_frozen BK301.out 0; have hfz51_1 := blk_frozen BK301.out 1; have hfz51_2 := blk_frozen BK301.out 2; have hcz52_0 : w47.cell? ⟨gb287, 0, none⟩ = some (.int .i64 t281) := (blk_cell BK287.out 0).trans rfl; have hcz52_1 : w47.cell? ⟨gb287, 1, none⟩ = some (.int .i64 t282) := (blk_cell BK287.out 1).trans rfl; have hcz52_2 : w47.cell? ⟨gb287, 2, none⟩ = some (.string t283) := (blk_cell BK287.out 2).trans rfl; have hfz52_0 := blk_frozen BK287.out 0; have hfz52_1 := blk_frozen BK287.out 1; have hfz52_2 := blk_frozen BK287.out 2; have hcz53_0 : w47.cell? ⟨gb294, 0, none⟩ = some (.int .i64 (Int.tmod (rd t289 0) t284)) := (blk_cell BK294.out 0).trans rfl; have hcz53_1 : w47.cell? ⟨gb294, 1, none⟩ = some (.int .i64 (Int.tmod (rd t289 1) t285)) := (blk_cell BK294.out 1).trans rfl; have hcz53_2 : w47.cell? ⟨gb294, 2, none⟩ = some (.int .i64 (wrap64 (1 + (Int.tmod (rd t289 2) (wrap64 (t284 - (Int.tmod (rd t289 0) t284))))))) := (blk_cell BK294.out 2).trans rfl; have hcz53_3 : w47.cell? ⟨gb294, 3, none⟩ = some (.int .i64 (wrap64 (1 + (Int.tmod (rd t289 3) (wrap64 (t285 - (Int.tmod (rd t289 1) t285))))))) := (blk_cell BK294.out 3).trans rfl; have hfz53_0 := blk_frozen BK294.out 0; have hfz53_1 := blk_frozen BK294.out 1; have hfz53_2 := blk_frozen BK294.out 2; have hfz53_3 := blk_frozen BK294.out 3) | ((with_reducible refine gate_callee (f := 12) rfl ?_); refine goesL_ (some 74) rfl rfl Try.func12 (by kernel_rfl) rfl #[.agg #[.int .i64 t281, .int .i64 t282, .string t283], .agg #[.int .i64 t297, .int .i64 t298, .string t299], .int .i64 (Int.tmod (rd t289 0) t284), .int .i64 (Int.tmod (rd t289 1) t285)] rfl (by (try simp only [List.map_toArray, List.map_cons, List.map_nil]); first | done | rfl | (simp only [List.length_drop, List.length_take]; rfl)) ?_; (with_reducible refine (impl_Pasted.calls k t281 t282 t283 t297 t298 t299 (Int.tmod (rd t289 0) t284) (Int.tmod (rd t289 1) t285) t302 t303 t304 t305 _ A15.out).mono ?_); rintro e w54 ⟨rfl, hb⟩; refine ⟨_, rfl, ?_⟩; have n0_ := Aside0.mk (Kd.R_below (by (with_reducible repeat (first | apply Kd.R_alloc | apply Kd.R_drewN | apply Kd.R_drew)); exact (Kd.R_mono (Kd.R_far (p := ⟨gb301, 2, none⟩) (Kd.R_far (p := ⟨gb301, 1, none⟩) (Kd.R_far (p := ⟨gb301, 0, none⟩) (Kd.R_types HO291.out BK301.out (by decide)) (fun _ hk => hk.2) (.int .i64 t297)) (fun _ hk => hk.2) (.int .i64 t298)) (fun _ hk => hk.2) (.string t299)) (fun _ h_ => h_.1))) hb); have n1_ := Aside0.mk (blk_below (g := gb287) (o := .cells #[.int .i64 t281, .int .i64 t282, .string t283] 25 (0, 0)) (by (with_reducible repeat (first | refine blk_drewN ?_ _ | refine blk_drew ?_ | refine blk_alloc ?_ _)); refine blk_far ?_ NB287_301.out _; (with_reducible repeat (first | refine blk_drewN ?_ _ | refine blk_drew ?_ | refine blk_alloc ?_ _)); refine blk_far ?_ NB287_301.out _; (with_reducible repeat (first | refine blk_drewN ?_ _ | refine blk_drew ?_ | refine blk_alloc ?_ _)); refine blk_far ?_ NB287_301.out _; (with_reducible repeat (first | refine blk_drewN ?_ _ | refine blk_drew ?_ | refine blk_alloc ?_ _)); exact BK287.out) hb); have n2_ := Aside0.mk (blk_below (g := gb288) (o := .cells #[.int .i64 t284, .int .i64 t285, .string t286] 25 (0, 0)) (by (with_reducible repeat (first | refine blk_drewN ?_ _ | refine blk_drew ?_ | refine blk_alloc ?_ _)); refine blk_far ?_ NB288_301.out _; (with_reducible repeat (first | refine blk_drewN ?_ _ | refine blk_drew ?_ | refine blk_alloc ?_ _)); refine blk_far ?_ NB288_301.out _; (with_reducible repeat (first | refine blk_drewN ?_ _ | refine blk_drew ?_ | refine blk_alloc ?_ _)); refine blk_far ?_ NB288_301.out _; (with_reducible repeat (first | refine blk_drewN ?_ _ | refine blk_drew ?_ | refine blk_alloc ?_ _)); exact BK288.out) hb); have n3_ := Aside0.mk (blk_below (g := gb294) (o := .cells #[.int .i64 (Int.tmod (rd t289 0) t284), .int .i64 (Int.tmod (rd t289 1) t285), .int .i64 (wrap64 (1 + (Int.tmod (rd t289 2) (wrap64 (t284 - (Int.tmod (rd t289 0) t284)))))), .int .i64 (wrap64 (1 + (Int.tmod (rd t289 3) (wrap64 (t285 - (Int.tmod (rd t289 1) t285))))))] 38 (0, 0)) (by (with_reducible repeat (first | refine blk_drewN ?_ _ | refine blk_drew ?_ | refine blk_alloc ?_ _)); refine blk_far ?_ NB294_301.out _; (with_reducible repeat (first | refine blk_drewN ?_ _ | refine blk_drew ?_ | refine blk_alloc ?_ _)); refine blk_far ?_ NB294_301.out _; (with_reducible repeat (first | refine blk_drewN ?_ _ | refine blk_drew ?_ | refine blk_alloc ?_ _)); refine blk_far ?_ NB294_301.out _; (with_reducible repeat (first | refine blk_drewN ?_ _ | refine blk_drew ?_ | refine blk_alloc ?_ _)); exact BK294.out) hb); have n4_ := Aside0.mk (blk_below (g := gb301) (o := .cells #[.int .i64 t297, .int .i64 t298, .string t299] 25 (0, 0)) (by (with_reducible repeat (first | refine blk_drewN ?_ _ | refine blk_drew ?_ | refine blk_alloc ?_ _)); refine blk_put (cs := #[.int .i64 t297, .int .i64 t298, .string (⟨#[]⟩ : ByteArray)]) ?_ 2 _ rfl; (with_reducible repeat (first | refine blk_drewN ?_ _ | refine blk_drew ?_ | refine blk_alloc ?_ _)); refine blk_put (cs := #[.int .i64 t297, .int .i64 0, .string (⟨#[]⟩ : ByteArray)]) ?_ 1 _ rfl; (with_reducible repeat (first | refine blk_drewN ?_ _ | refine blk_drew ?_ | refine blk_alloc ?_ _)); refine blk_put (cs := #[.int .i64 0, .int .i64 0, .string (⟨#[]⟩ : ByteArray)]) ?_ 0 _ rfl; (with_reducible repeat (first | refine blk_drewN ?_ _ | refine blk_drew ?_ | refine blk_alloc ?_ _)); exact BK301.out) hb); have n5_ := Aside0.mk (below_step (by repeat (first | (with_reducible first | exact HB.out | apply below_alloc | apply pw_below_drewN | apply below_drew1 | refine below_set ?_ GE287.out | refine below_set ?_ GE288.out | refine below_set ?_ GE294.out | refine below_set ?_ GE301.out) | exact HB.out)) hb); clear HO291; clear BK287; clear BK288; clear BK294; clear BK301; clear HB; have HO291 := n0_; have BK287 := n1_; have BK288 := n2_; have BK294 := n3_; have BK301 := n4_; have HB := n5_; clear n0_ n1_ n2_ n3_ n4_ n5_; (try clear hb); (try clear hb2); (try clear hk); (try clear hi)) | ((with_reducible refine gate_dst (N := 9) rfl ?_); refine box_event ?hg (N := 9) ?hd (cs := #[.int .i64 0, .int .i64 0, .string (⟨#[]⟩ : ByteArray)]) (t := 25) ?hr ?_; (case hd => rfl); (case hg => rfl); (case hr => first | (go_simp; done) | (go_simp; rfl)); intro gb306 hg w55 hbox hb; have n0_ := Aside0.mk (Kd.R_below (by (with_reducible repeat (first | apply Kd.R_alloc | apply Kd.R_drewN | apply Kd.R_drew)); exact HO291.out) hb); have n1_ := Aside0.mk (blk_below (g := gb287) (o := .cells #[.int .i64 t281, .int .i64 t282, .string t283] 25 (0, 0)) (by (with_reducible repeat (first | refine blk_drewN ?_ _ | refine blk_drew ?_ | refine blk_alloc ?_ _)); exact BK287.out) hb); have n2_ := Aside0.mk (blk_below (g := gb288) (o := .cells #[.int .i64 t284, .int .i64 t285, .string t286] 25 (0, 0)) (by (with_reducible repeat (first | refine blk_drewN ?_ _ | refine blk_drew ?_ | refine blk_alloc ?_ _)); exact BK288.out) hb); have n3_ := Aside0.mk (blk_below (g := gb294) (o := .cells #[.int .i64 (Int.tmod (rd t289 0) t284), .int .i64 (Int.tmod (rd t289 1) t285), .int .i64 (wrap64 (1 + (Int.tmod (rd t289 2) (wrap64 (t284 - (Int.tmod (rd t289 0) t284)))))), .int .i64 (wrap64 (1 + (Int.tmod (rd t289 3) (wrap64 (t285 - (Int.tmod (rd t289 1) t285))))))] 38 (0, 0)) (by (with_reducible repeat (first | refine blk_drewN ?_ _ | refine blk_drew ?_ | refine blk_alloc ?_ _)); exact BK294.out) hb); have n4_ := Aside0.mk (blk_below (g := gb301) (o := .cells #[.int .i64 t297, .int .i64 t298, .string t299] 25 (0, 0)) (by (with_reducible repeat (first | refine blk_drewN ?_ _ | refine blk_drew ?_ | refine blk_alloc ?_ _)); exact BK301.out) hb); have n5_ := Aside0.mk (below_step (by repeat (first | (with_reducible first | exact HB.out | apply below_alloc | apply pw_below_drewN | apply below_drew1 | refine below_set ?_ GE287.out | refine below_set ?_ GE288.out | refine below_set ?_ GE294.out | refine below_set ?_ GE301.out) | exact HB.out)) hb); have n6_ := Aside0.mk (hbox); have n7_ := Aside0.mk ((by rw [hg]; exact (below_size (by repeat (first | (with_reducible first | exact HB.out | apply below_alloc | apply pw_below_drewN | apply below_drew1 | refine below_set ?_ GE287.out | refine below_set ?_ GE288.out | refine below_set ?_ GE294.out | refine below_set ?_ GE301.out) | exact HB.out))) : w.heap.size ≤ gb306)); have n8_ := Aside0.mk ((by rw [hg]; exact (below_size (by repeat (first | (with_reducible first | exact HB.out | apply below_alloc | apply pw_below_drewN | apply below_drew1 | refine below_set ?_ GE287.out | refine below_set ?_ GE288.out | refine below_set ?_ GE294.out | refine below_set ?_ GE301.out) | exact HB.out))) : w.heap.size ≤ gb306)); have n9_ := Aside0.mk ((by rw [hg]; exact Nat.ne_of_lt (blk_lt (g := gb287) (o := .cells #[.int .i64 t281, .int .i64 t282, .string t283] 25 (0, 0)) (by (with_reducible repeat (first | refine blk_drewN ?_ _ | refine blk_drew ?_ | refine blk_alloc ?_ _)); exact BK287.out)) : gb287 ≠ gb306)); have n10_ := Aside0.mk ((by rw [hg]; exact Nat.ne_of_gt (blk_lt (g := gb287) (o := .cells #[.int .i64 t281, .int .i64 t282, .string t283] 25 (0, 0)) (by (with_reducible repeat (first | refine blk_drewN ?_ _ | refine blk_drew ?_ | refine blk_alloc ?_ _)); exact BK287.out)) : gb306 ≠ gb287)); have n11_ := Aside0.mk ((by rw [hg]; exact Nat.ne_of_lt (blk_lt (g := gb288) (o := .cells #[.int .i64 t284, .int .i64 t285, .string t286] 25 (0, 0)) (by (with_reducible repeat (first | refine blk_drewN ?_ _ | refine blk_drew ?_ | refine blk_alloc ?_ _)); exact BK288.out)) : gb288 ≠ gb306)); have n12_ := Aside0.mk ((by rw [hg]; exact Nat.ne_of_gt (blk_lt (g := gb288) (o := .cells #[.int .i64 t284, .int .i64 t285, .string t286] 25 (0, 0)) (by (with_reducible repeat (first | refine blk_drewN ?_ _ | refine blk_drew ?_ | refine blk_alloc ?_ _)); exact BK288.out)) : gb306 ≠ gb288)); have n13_ := Aside0.mk ((by rw [hg]; exact Nat.ne_of_lt (blk_lt (g := gb294) (o := .cells #[.int .i64 (Int.tmod (rd t289 0) t284), .int .i64 (Int.tmod (rd t289 1) t285), .int .i64 (wrap64 (1 + (Int.tmod (rd t289 2) (wrap64 (t284 - (Int.tmod (rd t289 0) t284)))))), .int .i64 (wrap64 (1 + (Int.tmod (rd t289 3) (wrap64 (t285 - (Int.tmod (rd t289 1) t285))))))] 38 (0, 0)) (by (with_reducible repeat (first | refine blk_drewN ?_ _ | refine blk_drew ?_ | refine blk_alloc ?_ _)); exact BK294.out)) : gb294 ≠ gb306)); have n14_ := Aside0.mk ((by rw [hg]; exact Nat.ne_of_gt (blk_lt (g := gb294) (o := .cells #[.int .i64 (Int.tmod (rd t289 0) t284), .int .i64 (Int.tmod (rd t289 1) t285), .int .i64 (wrap64 (1 + (Int.tmod (rd t289 2) (wrap64 (t284 - (Int.tmod (rd t289 0) t284)))))), .int .i64 (wrap64 (1 + (Int.tmod (rd t289 3) (wrap64 (t285 - (Int.tmod (rd t289 1) t285))))))] 38 (0, 0)) (by (with_reducible repeat (first | refine blk_drewN ?_ _ | refine blk_drew ?_ | refine blk_alloc ?_ _)); exact BK294.out)) : gb306 ≠ gb294)); have n15_ := Aside0.mk ((by rw [hg]; exact Nat.ne_of_lt (blk_lt (g := gb301) (o := .cells #[.int .i64 t297, .int .i64 t298, .string t299] 25 (0, 0)) (by (with_reducible repeat (first | refine blk_drewN ?_ _ | refine blk_drew ?_ | refine blk_alloc ?_ _)); exact BK301.out)) : gb301 ≠ gb306)); have n16_ := Aside0.mk ((by rw [hg]; exact Nat.ne_of_gt (blk_lt (g := gb301) (o := .cells #[.int .i64 t297, .int .i64 t298, .string t299] 25 (0, 0)) (by (with_reducible repeat (first | refine blk_drewN ?_ _ | refine blk_drew ?_ | refine blk_alloc ?_ _)); exact BK301.out)) : gb306 ≠ gb301)); clear HO291; clear BK287; clear BK288; clear BK294; clear BK301; clear HB; have HO291 := n0_; have BK287 := n1_; have BK288 := n2_; have BK294 := n3_; have BK301 := n4_; have HB := n5_; have BK306 := n6_; have GW306 := n7_; have GE306 := n8_; have NB287_306 := n9_; have NB306_287 := n10_; have NB288_306 := n11_; have NB306_288 := n12_; have NB294_306 := n13_; have NB306_294 := n14_; have NB301_306 := n15_; have NB306_301 := n16_; clear n0_ n1_ n2_ n3_ n4_ n5_ n6_ n7_ n8_ n9_ n10_ n11_ n12_ n13_ n14_ n15_ n16_; clear hb hbox hg; have hnb56 := NB306_287.out; have hnc56 := NB287_306.out; have hnb57 := NB306_288.out; have hnc57 := NB288_306.out; have hnb58 := NB306_294.out; have hnc58 := NB294_306.out; have hnb59 := NB306_301.out; have hnc59 := NB301_306.out; have hcz60_0 : w55.cell? ⟨gb306, 0, none⟩ = some (.int .i64 0) := (blk_cell BK306.out 0).trans rfl; have hcz60_1 : w55.cell? ⟨gb306, 1, none⟩ = some (.int .i64 0) := (blk_cell BK306.out 1).trans rfl; have hcz60_2 : w55.cell? ⟨gb306, 2, none⟩ = some (.string (⟨#[]⟩ : ByteArray)) := (blk_cell BK306.out 2).trans rfl; have hfz60_0 := blk_frozen BK306.out 0; have hfz60_1 := blk_frozen BK306.out 1; have hfz60_2 := blk_frozen BK306.out 2; have hcz61_0 : w55.cell? ⟨gb294, 0, none⟩ = some (.int .i64 (Int.tmod (rd t289 0) t284)) := (blk_cell BK294.out 0).trans rfl; have hcz61_1 : w55.cell? ⟨gb294, 1, none⟩ = some (.int .i64 (Int.tmod (rd t289 1) t285)) := (blk_cell BK294.out 1).trans rfl; have hcz61_2 : w55.cell? ⟨gb294, 2, none⟩ = some (.int .i64 (wrap64 (1 + (Int.tmod (rd t289 2) (wrap64 (t284 - (Int.tmod (rd t289 0) t284))))))) := (blk_cell BK294.out 2).trans rfl; have hcz61_3 : w55.cell? ⟨gb294, 3, none⟩ = some (.int .i64 (wrap64 (1 + (Int.tmod (rd t289 3) (wrap64 (t285 - (Int.tmod (rd t289 1) t285))))))) := (blk_cell BK294.out 3).trans rfl; have hfz61_0 := blk_frozen BK294.out 0; have hfz61_1 := blk_frozen BK294.out 1; have hfz61_2 := blk_frozen BK294.out 2; have hfz61_3 := blk_frozen BK294.out 3) | ((with_reducible refine gate_callee (f := 17) rfl ?_); refine goesL_ (some 80) rfl rfl Try.func17 (by kernel_rfl) rfl #[.agg #[.int .i64 t302, .int .i64 t303, .string t304], .agg #[.int .i64 (Int.tmod (rd t289 0) t284), .int .i64 (Int.tmod (rd t289 1) t285), .int .i64 (wrap64 (1 + (Int.tmod (rd t289 2) (wrap64 (t284 - (Int.tmod (rd t289 0) t284)))))), .int .i64 (wrap64 (1 + (Int.tmod (rd t289 3) (wrap64 (t285 - (Int.tmod (rd t289 1) t285))))))]] rfl (by (try simp only [List.map_toArray, List.map_cons, List.map_nil]); first | done | rfl | (simp only [List.length_drop, List.length_take]; rfl)) ?_; (with_reducible refine (impl_CutOf.calls k t302 t303 t304 (Int.tmod (rd t289 0) t284) (Int.tmod (rd t289 1) t285) (wrap64 (1 + (Int.tmod (rd t289 2) (wrap64 (t284 - (Int.tmod (rd t289 0) t284)))))) (wrap64 (1 + (Int.tmod (rd t289 3) (wrap64 (t285 - (Int.tmod (rd t289 1) t285)))))) t307 t308 t309 t310 _ A16.out).mono ?_); rintro e w62 ⟨rfl, hb⟩; refine ⟨_, rfl, ?_⟩; have n0_ := Aside0.mk (Kd.R_below (by (with_reducible repeat (first | apply Kd.R_alloc | apply Kd.R_drewN | apply Kd.R_drew)); exact (Kd.R_mono (Kd.R_far (p := ⟨gb306, 2, none⟩) (Kd.R_far (p := ⟨gb306, 1, none⟩) (Kd.R_far (p := ⟨gb306, 0, none⟩) (Kd.R_types HO291.out BK306.out (by decide)) (fun _ hk => hk.2) (.int .i64 t302)) (fun _ hk => hk.2) (.int .i64 t303)) (fun _ hk => hk.2) (.string t304)) (fun _ h_ => h_.1))) hb); have n1_ := Aside0.mk (blk_below (g := gb287) (o := .cells #[.int .i64 t281, .int .i64 t282, .string t283] 25 (0, 0)) (by (with_reducible repeat (first | refine blk_drewN ?_ _ | refine blk_drew ?_ | refine blk_alloc ?_ _)); refine blk_far ?_ NB287_306.out _; (with_reducible repeat (first | refine blk_drewN ?_ _ | refine blk_drew ?_ | refine blk_alloc ?_ _)); refine blk_far ?_ NB287_306.out _; (with_reducible repeat (first | refine blk_drewN ?_ _ | refine blk_drew ?_ | refine blk_alloc ?_ _)); refine blk_far ?_ NB287_306.out _; (with_reducible repeat (first | refine blk_drewN ?_ _ | refine blk_drew ?_ | refine blk_alloc ?_ _)); exact BK287.out) hb); have n2_ := Aside0.mk (blk_below (g := gb288) (o := .cells #[.int .i64 t284, .int .i64 t285, .string t286] 25 (0, 0)) (by (with_reducible repeat (first | refine blk_drewN ?_ _ | refine blk_drew ?_ | refine blk_alloc ?_ _)); refine blk_far ?_ NB288_306.out _; (with_reducible repeat (first | refine blk_drewN ?_ _ | refine blk_drew ?_ | refine blk_alloc ?_ _)); refine blk_far ?_ NB288_306.out _; (with_reducible repeat (first | refine blk_drewN ?_ _ | refine blk_drew ?_ | refine blk_alloc ?_ _)); refine blk_far ?_ NB288_306.out _; (with_reducible repeat (first | refine blk_drewN ?_ _ | refine blk_drew ?_ | refine blk_alloc ?_ _)); exact BK288.out) hb); have n3_ := Aside0.mk (blk_below (g := gb294) (o := .cells #[.int .i64 (Int.tmod (rd t289 0) t284), .int .i64 (Int.tmod (rd t289 1) t285), .int .i64 (wrap64 (1 + (Int.tmod (rd t289 2) (wrap64 (t284 - (Int.tmod (rd t289 0) t284)))))), .int .i64 (wrap64 (1 + (Int.tmod (rd t289 3) (wrap64 (t285 - (Int.tmod (rd t289 1) t285))))))] 38 (0, 0)) (by (with_reducible repeat (first | refine blk_drewN ?_ _ | refine blk_drew ?_ | refine blk_alloc ?_ _)); refine blk_far ?_ NB294_306.out _; (with_reducible repeat (first | refine blk_drewN ?_ _ | refine blk_drew ?_ | refine blk_alloc ?_ _)); refine blk_far ?_ NB294_306.out _; (with_reducible repeat (first | refine blk_drewN ?_ _ | refine blk_drew ?_ | refine blk_alloc ?_ _)); refine blk_far ?_ NB294_306.out _; (with_reducible repeat (first | refine blk_drewN ?_ _ | refine blk_drew ?_ | refine blk_alloc ?_ _)); exact BK294.out) hb); have n4_ := Aside0.mk (blk_below (g := gb301) (o := .cells #[.int .i64 t297, .int .i64 t298, .string t299] 25 (0, 0)) (by (with_reducible repeat (first | refine blk_drewN ?_ _ | refine blk_drew ?_ | refine blk_alloc ?_ _)); refine blk_far ?_ NB301_306.out _; (with_reducible repeat (first | refine blk_drewN ?_ _ | refine blk_drew ?_ | refine blk_alloc ?_ _)); refine blk_far ?_ NB301_306.out _; (with_reducible repeat (first | refine blk_drewN ?_ _ | refine blk_drew ?_ | refine blk_alloc ?_ _)); refine blk_far ?_ NB301_306.out _; (with_reducible repeat (first | refine blk_drewN ?_ _ | refine blk_drew ?_ | refine blk_alloc ?_ _)); exact BK301.out) hb); have n5_ := Aside0.mk (blk_below (g := gb306) (o := .cells #[.int .i64 t302, .int .i64 t303, .string t304] 25 (0, 0)) (by (with_reducible repeat (first | refine blk_drewN ?_ _ | refine blk_drew ?_ | refine blk_alloc ?_ _)); refine blk_put (cs := #[.int .i64 t302, .int .i64 t303, .string (⟨#[]⟩ : ByteArray)]) ?_ 2 _ rfl; (with_reducible repeat (first | refine blk_drewN ?_ _ | refine blk_drew ?_ | refine blk_alloc ?_ _)); refine blk_put (cs := #[.int .i64 t302, .int .i64 0, .string (⟨#[]⟩ : ByteArray)]) ?_ 1 _ rfl; (with_reducible repeat (first | refine blk_drewN ?_ _ | refine blk_drew ?_ | refine blk_alloc ?_ _)); refine blk_put (cs := #[.int .i64 0, .int .i64 0, .string (⟨#[]⟩ : ByteArray)]) ?_ 0 _ rfl; (with_reducible repeat (first | refine blk_drewN ?_ _ | refine blk_drew ?_ | refine blk_alloc ?_ _)); exact BK306.out) hb); have n6_ := Aside0.mk (below_step (by repeat (first | (with_reducible first | exact HB.out | apply below_alloc | apply pw_below_drewN | apply below_drew1 | refine below_set ?_ GE287.out | refine below_set ?_ GE288.out | refine below_set ?_ GE294.out | refine below_set ?_ GE301.out | refine below_set ?_ GE306.out) | exact HB.out)) hb); clear HO291; clear BK287; clear BK288; clear BK294; clear BK301; clear BK306; clear HB; have HO291 := n0_; have BK287 := n1_; have BK288 := n2_; have BK294 := n3_; have BK301 := n4_; have BK306 := n5_; have HB := n6_; clear n0_ n1_ n2_ n3_ n4_ n5_ n6_; (try clear hb); (try clear hb2); (try clear hk); (try clear hi)) | ((with_reducible refine gate_dst (N := 11) rfl ?_); refine box_event ?hg (N := 11) ?hd (cs := #[.int .i64 0, .int .i64 0, .string (⟨#[]⟩ : ByteArray)]) (t := 25) ?hr ?_; (case hd => rfl); (case hg => rfl); (case hr => first | (go_simp; done) | (go_simp; rfl)); intro gb311 hg w63 hbox hb; have n0_ := Aside0.mk (Kd.R_below (by (with_reducible repeat (first | apply Kd.R_alloc | apply Kd.R_drewN | apply Kd.R_drew)); exact HO291.out) hb); have n1_ := Aside0.mk (blk_below (g := gb287) (o := .cells #[.int .i64 t281, .int .i64 t282, .string t283] 25 (0, 0)) (by (with_reducible repeat (first | refine blk_drewN ?_ _ | refine blk_drew ?_ | refine blk_alloc ?_ _)); exact BK287.out) hb); have n2_ := Aside0.mk (blk_below (g := gb288) (o := .cells #[.int .i64 t284, .int .i64 t285, .string t286] 25 (0, 0)) (by (with_reducible repeat (first | refine blk_drewN ?_ _ | refine blk_drew ?_ | refine blk_alloc ?_ _)); exact BK288.out) hb); have n3_ := Aside0.mk (blk_below (g := gb294) (o := .cells #[.int .i64 (Int.tmod (rd t289 0) t284), .int .i64 (Int.tmod (rd t289 1) t285), .int .i64 (wrap64 (1 + (Int.tmod (rd t289 2) (wrap64 (t284 - (Int.tmod (rd t289 0) t284)))))), .int .i64 (wrap64 (1 + (Int.tmod (rd t289 3) (wrap64 (t285 - (Int.tmod (rd t289 1) t285))))))] 38 (0, 0)) (by (with_reducible repeat (first | refine blk_drewN ?_ _ | refine blk_drew ?_ | refine blk_alloc ?_ _)); exact BK294.out) hb); have n4_ := Aside0.mk (blk_below (g := gb301) (o := .cells #[.int .i64 t297, .int .i64 t298, .string t299] 25 (0, 0)) (by (with_reducible repeat (first | refine blk_drewN ?_ _ | refine blk_drew ?_ | refine blk_alloc ?_ _)); exact BK301.out) hb); have n5_ := Aside0.mk (blk_below (g := gb306) (o := .cells #[.int .i64 t302, .int .i64 t303, .string t304] 25 (0, 0)) (by (with_reducible repeat (first | refine blk_drewN ?_ _ | refine blk_drew ?_ | refine blk_alloc ?_ _)); exact BK306.out) hb); have n6_ := Aside0.mk (below_step (by repeat (first | (with_reducible first | exact HB.out | apply below_alloc | apply pw_below_drewN | apply below_drew1 | refine below_set ?_ GE287.out | refine below_set ?_ GE288.out | refine below_set ?_ GE294.out | refine below_set ?_ GE301.out | refine below_set ?_ GE306.out) | exact HB.out)) hb); have n7_ := Aside0.mk (hbox); have n8_ := Aside0.mk ((by rw [hg]; exact (below_size (by repeat (first | (with_reducible first | exact HB.out | apply below_alloc | apply pw_below_drewN | apply below_drew1 | refine below_set ?_ GE287.out | refine below_set ?_ GE288.out | refine below_set ?_ GE294.out | refine below_set ?_ GE301.out | refine below_set ?_ GE306.out) | exact HB.out))) : w.heap.size ≤ gb311)); have n9_ := Aside0.mk ((by rw [hg]; exact (below_size (by repeat (first | (with_reducible first | exact HB.out | apply below_alloc | apply pw_below_drewN | apply below_drew1 | refine below_set ?_ GE287.out | refine below_set ?_ GE288.out | refine below_set ?_ GE294.out | refine below_set ?_ GE301.out | refine below_set ?_ GE306.out) | exact HB.out))) : w.heap.size ≤ gb311)); have n10_ := Aside0.mk ((by rw [hg]; exact Nat.ne_of_lt (blk_lt (g := gb287) (o := .cells #[.int .i64 t281, .int .i64 t282, .string t283] 25 (0, 0)) (by (with_reducible repeat (first | refine blk_drewN ?_ _ | refine blk_drew ?_ | refine blk_alloc ?_ _)); exact BK287.out)) : gb287 ≠ gb311)); have n11_ := Aside0.mk ((by rw [hg]; exact Nat.ne_of_gt (blk_lt (g := gb287) (o := .cells #[.int .i64 t281, .int .i64 t282, .string t283] 25 (0, 0)) (by (with_reducible repeat (first | refine blk_drewN ?_ _ | refine blk_drew ?_ | refine blk_alloc ?_ _)); exact BK287.out)) : gb311 ≠ gb287)); have n12_ := Aside0.mk ((by rw [hg]; exact Nat.ne_of_lt (blk_lt (g := gb288) (o := .cells #[.int .i64 t284, .int .i64 t285, .string t286] 25 (0, 0)) (by (with_reducible repeat (first | refine blk_drewN ?_ _ | refine blk_drew ?_ | refine blk_alloc ?_ _)); exact BK288.out)) : gb288 ≠ gb311)); have n13_ := Aside0.mk ((by rw [hg]; exact Nat.ne_of_gt (blk_lt (g := gb288) (o := .cells #[.int .i64 t284, .int .i64 t285, .string t286] 25 (0, 0)) (by (with_reducible repeat (first | refine blk_drewN ?_ _ | refine blk_drew ?_ | refine blk_alloc ?_ _)); exact BK288.out)) : gb311 ≠ gb288)); have n14_ := Aside0.mk ((by rw [hg]; exact Nat.ne_of_lt (blk_lt (g := gb294) (o := .cells #[.int .i64 (Int.tmod (rd t289 0) t284), .int .i64 (Int.tmod (rd t289 1) t285), .int .i64 (wrap64 (1 + (Int.tmod (rd t289 2) (wrap64 (t284 - (Int.tmod (rd t289 0) t284)))))), .int .i64 (wrap64 (1 + (Int.tmod (rd t289 3) (wrap64 (t285 - (Int.tmod (rd t289 1) t285))))))] 38 (0, 0)) (by (with_reducible repeat (first | refine blk_drewN ?_ _ | refine blk_drew ?_ | refine blk_alloc ?_ _)); exact BK294.out)) : gb294 ≠ gb311)); have n15_ := Aside0.mk ((by rw [hg]; exact Nat.ne_of_gt (blk_lt (g := gb294) (o := .cells #[.int .i64 (Int.tmod (rd t289 0) t284), .int .i64 (Int.tmod (rd t289 1) t285), .int .i64 (wrap64 (1 + (Int.tmod (rd t289 2) (wrap64 (t284 - (Int.tmod (rd t289 0) t284)))))), .int .i64 (wrap64 (1 + (Int.tmod (rd t289 3) (wrap64 (t285 - (Int.tmod (rd t289 1) t285))))))] 38 (0, 0)) (by (with_reducible repeat (first | refine blk_drewN ?_ _ | refine blk_drew ?_ | refine blk_alloc ?_ _)); exact BK294.out)) : gb311 ≠ gb294)); have n16_ := Aside0.mk ((by rw [hg]; exact Nat.ne_of_lt (blk_lt (g := gb301) (o := .cells #[.int .i64 t297, .int .i64 t298, .string t299] 25 (0, 0)) (by (with_reducible repeat (first | refine blk_drewN ?_ _ | refine blk_drew ?_ | refine blk_alloc ?_ _)); exact BK301.out)) : gb301 ≠ gb311)); have n17_ := Aside0.mk ((by rw [hg]; exact Nat.ne_of_gt (blk_lt (g := gb301) (o := .cells #[.int .i64 t297, .int .i64 t298, .string t299] 25 (0, 0)) (by (with_reducible repeat (first | refine blk_drewN ?_ _ | refine blk_drew ?_ | refine blk_alloc ?_ _)); exact BK301.out)) : gb311 ≠ gb301)); have n18_ := Aside0.mk ((by rw [hg]; exact Nat.ne_of_lt (blk_lt (g := gb306) (o := .cells #[.int .i64 t302, .int .i64 t303, .string t304] 25 (0, 0)) (by (with_reducible repeat (first | refine blk_drewN ?_ _ | refine blk_drew ?_ | refine blk_alloc ?_ _)); exact BK306.out)) : gb306 ≠ gb311)); have n19_ := Aside0.mk ((by rw [hg]; exact Nat.ne_of_gt (blk_lt (g := gb306) (o := .cells #[.int .i64 t302, .int .i64 t303, .string t304] 25 (0, 0)) (by (with_reducible repeat (first | refine blk_drewN ?_ _ | refine blk_drew ?_ | refine blk_alloc ?_ _)); exact BK306.out)) : gb311 ≠ gb306)); clear HO291; clear BK287; clear BK288; clear BK294; clear BK301; clear BK306; clear HB; have HO291 := n0_; have BK287 := n1_; have BK288 := n2_; have BK294 := n3_; have BK301 := n4_; have BK306 := n5_; have HB := n6_; have BK311 := n7_; have GW311 := n8_; have GE311 := n9_; have NB287_311 := n10_; have NB311_287 := n11_; have NB288_311 := n12_; have NB311_288 := n13_; have NB294_311 := n14_; have NB311_294 := n15_; have NB301_311 := n16_; have NB311_301 := n17_; have NB306_311 := n18_; have NB311_306 := n19_; clear n0_ n1_ n2_ n3_ n4_ n5_ n6_ n7_ n8_ n9_ n10_ n11_ n12_ n13_ n14_ n15_ n16_ n17_ n18_ n19_; clear hb hbox hg; have hnb64 := NB311_287.out; have hnc64 := NB287_311.out; have hnb65 := NB311_288.out; have hnc65 := NB288_311.out; have hnb66 := NB311_294.out; have hnc66 := NB294_311.out; have hnb67 := NB311_301.out; have hnc67 := NB301_311.out; have hnb68 := NB311_306.out; have hnc68 := NB306_311.out; have hcz69_0 : w63.cell? ⟨gb311, 0, none⟩ = some (.int .i64 0) := (blk_cell BK311.out 0).trans rfl; have hcz69_1 : w63.cell? ⟨gb311, 1, none⟩ = some (.int .i64 0) := (blk_cell BK311.out 1).trans rfl; have hcz69_2 : w63.cell? ⟨gb311, 2, none⟩ = some (.string (⟨#[]⟩ : ByteArray)) := (blk_cell BK311.out 2).trans rfl; have hfz69_0 := blk_frozen BK311.out 0; have hfz69_1 := blk_frozen BK311.out 1; have hfz69_2 := blk_frozen BK311.out 2))
              have n0_ : Aside0 (Kd.R (Kd.int .i64) 3 (((w63.setCell ⟨gb311, 0, none⟩ (.int .i64 t307)).setCell ⟨gb311, 1, none⟩ (.int .i64 t308)).setCell ⟨gb311, 2, none⟩ (.string t309)) w.heap.size (fun _ => True) (.slice (some ad292) t289.length co30) t289) := ⟨by (with_reducible repeat (first | apply Kd.R_alloc | apply Kd.R_drewN | apply Kd.R_drew)); exact Kd.R_mono (Kd.R_far (p := ⟨gb311, 2, none⟩) (Kd.R_far (p := ⟨gb311, 1, none⟩) (Kd.R_far (p := ⟨gb311, 0, none⟩) (Kd.R_types HO291.out BK311.out (by decide)) (fun _ hk => hk.2) (.int .i64 t307)) (fun _ hk => hk.2) (.int .i64 t308)) (fun _ hk => hk.2) (.string t309)) (fun _ hk => trivial)⟩
              have n1_ : Aside0 ((((w63.setCell ⟨gb311, 0, none⟩ (.int .i64 t307)).setCell ⟨gb311, 1, none⟩ (.int .i64 t308)).setCell ⟨gb311, 2, none⟩ (.string t309)).heap[gb287]? = some (.cells #[.int .i64 t281, .int .i64 t282, .string t283] 25 (0, 0))) := ⟨by (with_reducible repeat (first | refine blk_drewN ?_ _ | refine blk_drew ?_ | refine blk_alloc ?_ _)); refine blk_far ?_ NB287_311.out _; (with_reducible repeat (first | refine blk_drewN ?_ _ | refine blk_drew ?_ | refine blk_alloc ?_ _)); refine blk_far ?_ NB287_311.out _; (with_reducible repeat (first | refine blk_drewN ?_ _ | refine blk_drew ?_ | refine blk_alloc ?_ _)); refine blk_far ?_ NB287_311.out _; (with_reducible repeat (first | refine blk_drewN ?_ _ | refine blk_drew ?_ | refine blk_alloc ?_ _)); exact BK287.out⟩
              have n2_ : Aside0 ((((w63.setCell ⟨gb311, 0, none⟩ (.int .i64 t307)).setCell ⟨gb311, 1, none⟩ (.int .i64 t308)).setCell ⟨gb311, 2, none⟩ (.string t309)).heap[gb288]? = some (.cells #[.int .i64 t284, .int .i64 t285, .string t286] 25 (0, 0))) := ⟨by (with_reducible repeat (first | refine blk_drewN ?_ _ | refine blk_drew ?_ | refine blk_alloc ?_ _)); refine blk_far ?_ NB288_311.out _; (with_reducible repeat (first | refine blk_drewN ?_ _ | refine blk_drew ?_ | refine blk_alloc ?_ _)); refine blk_far ?_ NB288_311.out _; (with_reducible repeat (first | refine blk_drewN ?_ _ | refine blk_drew ?_ | refine blk_alloc ?_ _)); refine blk_far ?_ NB288_311.out _; (with_reducible repeat (first | refine blk_drewN ?_ _ | refine blk_drew ?_ | refine blk_alloc ?_ _)); exact BK288.out⟩
              have n3_ : Aside0 ((((w63.setCell ⟨gb311, 0, none⟩ (.int .i64 t307)).setCell ⟨gb311, 1, none⟩ (.int .i64 t308)).setCell ⟨gb311, 2, none⟩ (.string t309)).heap[gb294]? = some (.cells #[.int .i64 (Int.tmod (rd t289 0) t284), .int .i64 (Int.tmod (rd t289 1) t285), .int .i64 (wrap64 (1 + (Int.tmod (rd t289 2) (wrap64 (t284 - (Int.tmod (rd t289 0) t284)))))), .int .i64 (wrap64 (1 + (Int.tmod (rd t289 3) (wrap64 (t285 - (Int.tmod (rd t289 1) t285))))))] 38 (0, 0))) := ⟨by (with_reducible repeat (first | refine blk_drewN ?_ _ | refine blk_drew ?_ | refine blk_alloc ?_ _)); refine blk_far ?_ NB294_311.out _; (with_reducible repeat (first | refine blk_drewN ?_ _ | refine blk_drew ?_ | refine blk_alloc ?_ _)); refine blk_far ?_ NB294_311.out _; (with_reducible repeat (first | refine blk_drewN ?_ _ | refine blk_drew ?_ | refine blk_alloc ?_ _)); refine blk_far ?_ NB294_311.out _; (with_reducible repeat (first | refine blk_drewN ?_ _ | refine blk_drew ?_ | refine blk_alloc ?_ _)); exact BK294.out⟩
              have n4_ : Aside0 ((((w63.setCell ⟨gb311, 0, none⟩ (.int .i64 t307)).setCell ⟨gb311, 1, none⟩ (.int .i64 t308)).setCell ⟨gb311, 2, none⟩ (.string t309)).heap[gb301]? = some (.cells #[.int .i64 t297, .int .i64 t298, .string t299] 25 (0, 0))) := ⟨by (with_reducible repeat (first | refine blk_drewN ?_ _ | refine blk_drew ?_ | refine blk_alloc ?_ _)); refine blk_far ?_ NB301_311.out _; (with_reducible repeat (first | refine blk_drewN ?_ _ | refine blk_drew ?_ | refine blk_alloc ?_ _)); refine blk_far ?_ NB301_311.out _; (with_reducible repeat (first | refine blk_drewN ?_ _ | refine blk_drew ?_ | refine blk_alloc ?_ _)); refine blk_far ?_ NB301_311.out _; (with_reducible repeat (first | refine blk_drewN ?_ _ | refine blk_drew ?_ | refine blk_alloc ?_ _)); exact BK301.out⟩
              have n5_ : Aside0 ((((w63.setCell ⟨gb311, 0, none⟩ (.int .i64 t307)).setCell ⟨gb311, 1, none⟩ (.int .i64 t308)).setCell ⟨gb311, 2, none⟩ (.string t309)).heap[gb306]? = some (.cells #[.int .i64 t302, .int .i64 t303, .string t304] 25 (0, 0))) := ⟨by (with_reducible repeat (first | refine blk_drewN ?_ _ | refine blk_drew ?_ | refine blk_alloc ?_ _)); refine blk_far ?_ NB306_311.out _; (with_reducible repeat (first | refine blk_drewN ?_ _ | refine blk_drew ?_ | refine blk_alloc ?_ _)); refine blk_far ?_ NB306_311.out _; (with_reducible repeat (first | refine blk_drewN ?_ _ | refine blk_drew ?_ | refine blk_alloc ?_ _)); refine blk_far ?_ NB306_311.out _; (with_reducible repeat (first | refine blk_drewN ?_ _ | refine blk_drew ?_ | refine blk_alloc ?_ _)); exact BK306.out⟩
              have n6_ : Aside0 ((((w63.setCell ⟨gb311, 0, none⟩ (.int .i64 t307)).setCell ⟨gb311, 1, none⟩ (.int .i64 t308)).setCell ⟨gb311, 2, none⟩ (.string t309)).heap[gb311]? = some (.cells #[.int .i64 t307, .int .i64 t308, .string t309] 25 (0, 0))) := ⟨by (with_reducible repeat (first | refine blk_drewN ?_ _ | refine blk_drew ?_ | refine blk_alloc ?_ _)); refine blk_put (cs := #[.int .i64 t307, .int .i64 t308, .string (⟨#[]⟩ : ByteArray)]) ?_ 2 _ rfl; (with_reducible repeat (first | refine blk_drewN ?_ _ | refine blk_drew ?_ | refine blk_alloc ?_ _)); refine blk_put (cs := #[.int .i64 t307, .int .i64 0, .string (⟨#[]⟩ : ByteArray)]) ?_ 1 _ rfl; (with_reducible repeat (first | refine blk_drewN ?_ _ | refine blk_drew ?_ | refine blk_alloc ?_ _)); refine blk_put (cs := #[.int .i64 0, .int .i64 0, .string (⟨#[]⟩ : ByteArray)]) ?_ 0 _ rfl; (with_reducible repeat (first | refine blk_drewN ?_ _ | refine blk_drew ?_ | refine blk_alloc ?_ _)); exact BK311.out⟩
              have n7_ : Aside0 (Below w.heap.size w (((w63.setCell ⟨gb311, 0, none⟩ (.int .i64 t307)).setCell ⟨gb311, 1, none⟩ (.int .i64 t308)).setCell ⟨gb311, 2, none⟩ (.string t309))) := ⟨by repeat (first | (with_reducible first | exact HB.out | apply below_alloc | apply pw_below_drewN | apply below_drew1 | refine below_set ?_ GE287.out | refine below_set ?_ GE288.out | refine below_set ?_ GE294.out | refine below_set ?_ GE301.out | refine below_set ?_ GE306.out | refine below_set ?_ GE311.out) | exact HB.out)⟩
              (try clear HO291)
              (try clear BK287)
              (try clear BK288)
              (try clear BK294)
              (try clear BK301)
              (try clear BK306)
              (try clear BK311)
              (try clear HB)
              generalize (((w63.setCell ⟨gb311, 0, none⟩ (.int .i64 t307)).setCell ⟨gb311, 1, none⟩ (.int .i64 t308)).setCell ⟨gb311, 2, none⟩ (.string t309)) = w70 at n0_ n1_ n2_ n3_ n4_ n5_ n6_ n7_ ⊢
              have HO291 := n0_
              have BK287 := n1_
              have BK288 := n2_
              have BK294 := n3_
              have BK301 := n4_
              have BK306 := n5_
              have BK311 := n6_
              have HB := n7_
              clear n0_ n1_ n2_ n3_ n4_ n5_ n6_ n7_
              have n0_ := Aside0.mk (Kd.R_drew HO291.out)
              have n1_ := Aside0.mk (blk_drew BK287.out)
              have n2_ := Aside0.mk (blk_drew BK288.out)
              have n3_ := Aside0.mk (blk_drew BK294.out)
              have n4_ := Aside0.mk (blk_drew BK301.out)
              have n5_ := Aside0.mk (blk_drew BK306.out)
              have n6_ := Aside0.mk (blk_drew BK311.out)
              have n7_ := Aside0.mk (below_drew1 HB.out)
              clear HO291
              clear BK287
              clear BK288
              clear BK294
              clear BK301
              clear BK306
              clear BK311
              clear HB
              have HO291 := n0_
              have BK287 := n1_
              have BK288 := n2_
              have BK294 := n3_
              have BK301 := n4_
              have BK306 := n5_
              have BK311 := n6_
              have HB := n7_
              clear n0_ n1_ n2_ n3_ n4_ n5_ n6_ n7_
              have p312 : 0 ≤ (4 : Int) := (by omega)
              have q312 : 4 < (t289.length : Int) := of_decide_eq_true (by first | (with_reducible assumption) | assumption)
              obtain ⟨ad312, e312, hx312_0⟩ := Kd.at_int (Kd.R_reads' HO291.out).2.2 4 p312 q312
              obtain rfl : ad292 = ad312 := (by injection e312)
              (try simp only [show (4 : Int).toNat = 4 from rfl, Nat.reduceMul, Nat.reduceEqDiff, Go.Addr.add, ↓reduceIte] at hx312_0)
              have qi312 : (4 < t289.length) = True := eq_true (by omega)
              (try rw [show ((4 : Int)).toNat = 4 from rfl] at hx312_0)
              replace p312 := eq_true p312
              replace q312 := eq_true q312
              refine start_ (n := 7) (S := fun w' => w'.cell? ⟨gb287, 0, none⟩ = some (.int .i64 t281) ∧ w'.cell? ⟨gb287, 1, none⟩ = some (.int .i64 t282) ∧ w'.cell? ⟨gb287, 2, none⟩ = some (.string t283) ∧ w'.cell? ⟨ad292.block, ad292.off + 4, none⟩ = some (.int .i64 (rd t289 4))) (ds := []) #[Z,Z,Z,Z,Z,Z,Z] (by kernel_rfl) rfl rfl ⟨(blk_cell BK287.out 0).trans rfl, (blk_cell BK287.out 1).trans rfl, (blk_cell BK287.out 2).trans rfl, hx312_0⟩ (fun hHeld => ?_)
              generalize w70.drew = w71 at HO291 BK287 BK288 BK294 BK301 BK306 BK311 HB hx312_0 hHeld ⊢
              refine pure_ (i := 0) (N := some 83) (v := ?_) (a' := ?_) #[Y,Z,Z,Z,Z,Z,Z] rfl rfl (by kernel_rfl) (fun _ _ _ h => h) (Or.inl ⟨by rfl, ?_⟩) ?_ ?_
              rotate_left
              ·intro w'
               go_simp
               with_reducible rfl
              rotate_left
              ·simp only [Act.put, List.setIfInBounds_toArray, List.set_cons_zero, List.set_cons_succ, i64_w, i32_w]
               rfl
              refine pure_ (i := 1) (N := some 84) (v := ?_) (a' := ?_) #[Y,Y,Z,Z,Z,Z,Z] rfl rfl (by kernel_rfl) (fun _ _ _ h => h) (Or.inl ⟨by rfl, ?_⟩) ?_ ?_
              rotate_left
              ·intro w'
               go_simp
               with_reducible rfl
              rotate_left
              ·simp only [Act.put, List.setIfInBounds_toArray, List.set_cons_zero, List.set_cons_succ, i64_w, i32_w]
               rfl
              refine pure_ (i := 3) (N := some 86) (v := ?_) (a' := ?_) #[Y,Y,Z,Y,Z,Z,Z] rfl rfl (by kernel_rfl) (fun _ _ _ h => h) (Or.inl ⟨by rfl, ?_⟩) ?_ ?_
              rotate_left
              ·intro w'
               go_simp
               with_reducible rfl
              rotate_left
              ·simp only [Act.put, List.setIfInBounds_toArray, List.set_cons_zero, List.set_cons_succ, i64_w, i32_w]
               rfl
              refine take_ (i := 2) (N := some 85) (v := ?_) (a' := ?_) #[Y,Y,Y,Y,Z,Z,Z] rfl rfl (by kernel_rfl) (fun _ _ _ h => h) (Or.inl ⟨by rfl, ?_⟩) hHeld ?_ ?_
              rotate_left
              ·rintro w' ⟨s0, s1, s2, s3⟩
               go_simp
               with_reducible rfl
              rotate_left
              ·simp only [Act.put, List.setIfInBounds_toArray, List.set_cons_zero, List.set_cons_succ, i64_w, i32_w]
               rfl
              refine take_ (i := 4) (N := some 87) (v := ?_) (a' := ?_) #[Y,Y,Y,Y,Y,Z,Z] rfl rfl (by kernel_rfl) (fun _ _ _ h => h) (Or.inl ⟨by rfl, ?_⟩) hHeld ?_ ?_
              rotate_left
              ·rintro w' ⟨s0, s1, s2, s3⟩
               go_simp
               with_reducible rfl
              rotate_left
              ·simp only [Act.put, List.setIfInBounds_toArray, List.set_cons_zero, List.set_cons_succ, i64_w, i32_w]
               rfl
              refine pure_ (i := 5) (N := some 88) (v := ?_) (a' := ?_) #[Y,Y,Y,Y,Y,Y,Z] rfl rfl (by kernel_rfl) (fun _ _ _ h => h) (Or.inl ⟨by rfl, ?_⟩) ?_ ?_
              rotate_left
              ·intro w'
               go_simp
               with_reducible rfl
              rotate_left
              ·simp only [Act.put, List.setIfInBounds_toArray, List.set_cons_zero, List.set_cons_succ, i64_w, i32_w]
               rfl
              refine pure_ (i := 6) (N := some 13) (v := ?_) (a' := ?_) #[Y,Y,Y,Y,Y,Y,Y] rfl rfl (by kernel_rfl) (fun _ _ _ h => h) (Or.inl ⟨by rfl, ?_⟩) ?_ ?_
              rotate_left
              ·intro w'
               go_simp
               with_reducible rfl
              rotate_left
              ·simp only [Act.put, List.setIfInBounds_toArray, List.set_cons_zero, List.set_cons_succ, i64_w, i32_w]
               rfl
              refine done_ (by kernel_rfl) ?_
              try go_wp2
              have n0_ := Aside0.mk (Kd.R_drew HO291.out)
              have n1_ := Aside0.mk (blk_drew BK287.out)
              have n2_ := Aside0.mk (blk_drew BK288.out)
              have n3_ := Aside0.mk (blk_drew BK294.out)
              have n4_ := Aside0.mk (blk_drew BK301.out)
              have n5_ := Aside0.mk (blk_drew BK306.out)
              have n6_ := Aside0.mk (blk_drew BK311.out)
              have n7_ := Aside0.mk (below_drew1 HB.out)
              clear HO291
              clear BK287
              clear BK288
              clear BK294
              clear BK301
              clear BK306
              clear BK311
              clear HB
              have HO291 := n0_
              have BK287 := n1_
              have BK288 := n2_
              have BK294 := n3_
              have BK301 := n4_
              have BK306 := n5_
              have BK311 := n6_
              have HB := n7_
              clear n0_ n1_ n2_ n3_ n4_ n5_ n6_ n7_
              have p313 : 0 ≤ (5 : Int) := (by omega)
              have q313 : 5 < (t289.length : Int) := of_decide_eq_true (by first | (with_reducible assumption) | assumption)
              obtain ⟨ad313, e313, hx313_0⟩ := Kd.at_int (Kd.R_reads' HO291.out).2.2 5 p313 q313
              obtain rfl : ad292 = ad313 := (by injection e313)
              (try simp only [show (5 : Int).toNat = 5 from rfl, Nat.reduceMul, Nat.reduceEqDiff, Go.Addr.add, ↓reduceIte] at hx313_0)
              have qi313 : (5 < t289.length) = True := eq_true (by omega)
              (try rw [show ((5 : Int)).toNat = 5 from rfl] at hx313_0)
              replace p313 := eq_true p313
              replace q313 := eq_true q313
              refine start_ (n := 7) (S := fun w' => w'.cell? ⟨gb287, 0, none⟩ = some (.int .i64 t281) ∧ w'.cell? ⟨gb287, 1, none⟩ = some (.int .i64 t282) ∧ w'.cell? ⟨gb287, 2, none⟩ = some (.string t283) ∧ w'.cell? ⟨ad292.block, ad292.off + 5, none⟩ = some (.int .i64 (rd t289 5))) (ds := []) #[Z,Z,Z,Z,Z,Z,Z] (by kernel_rfl) rfl rfl ⟨(blk_cell BK287.out 0).trans rfl, (blk_cell BK287.out 1).trans rfl, (blk_cell BK287.out 2).trans rfl, hx313_0⟩ (fun hHeld => ?_)
              generalize w71.drew = w72 at HO291 BK287 BK288 BK294 BK301 BK306 BK311 HB hx313_0 hHeld ⊢
              refine pure_ (i := 0) (N := some 89) (v := ?_) (a' := ?_) #[Y,Z,Z,Z,Z,Z,Z] rfl rfl (by kernel_rfl) (fun _ _ _ h => h) (Or.inl ⟨by rfl, ?_⟩) ?_ ?_
              rotate_left
              ·intro w'
               go_simp
               with_reducible rfl
              rotate_left
              ·simp only [Act.put, List.setIfInBounds_toArray, List.set_cons_zero, List.set_cons_succ, i64_w, i32_w]
               rfl
              refine pure_ (i := 1) (N := some 90) (v := ?_) (a' := ?_) #[Y,Y,Z,Z,Z,Z,Z] rfl rfl (by kernel_rfl) (fun _ _ _ h => h) (Or.inl ⟨by rfl, ?_⟩) ?_ ?_
              rotate_left
              ·intro w'
               go_simp
               with_reducible rfl
              rotate_left
              ·simp only [Act.put, List.setIfInBounds_toArray, List.set_cons_zero, List.set_cons_succ, i64_w, i32_w]
               rfl
              refine pure_ (i := 3) (N := some 92) (v := ?_) (a' := ?_) #[Y,Y,Z,Y,Z,Z,Z] rfl rfl (by kernel_rfl) (fun _ _ _ h => h) (Or.inl ⟨by rfl, ?_⟩) ?_ ?_
              rotate_left
              ·intro w'
               go_simp
               with_reducible rfl
              rotate_left
              ·simp only [Act.put, List.setIfInBounds_toArray, List.set_cons_zero, List.set_cons_succ, i64_w, i32_w]
               rfl
              refine take_ (i := 2) (N := some 91) (v := ?_) (a' := ?_) #[Y,Y,Y,Y,Z,Z,Z] rfl rfl (by kernel_rfl) (fun _ _ _ h => h) (Or.inl ⟨by rfl, ?_⟩) hHeld ?_ ?_
              rotate_left
              ·rintro w' ⟨s0, s1, s2, s3⟩
               go_simp
               with_reducible rfl
              rotate_left
              ·simp only [Act.put, List.setIfInBounds_toArray, List.set_cons_zero, List.set_cons_succ, i64_w, i32_w]
               rfl
              refine take_ (i := 4) (N := some 93) (v := ?_) (a' := ?_) #[Y,Y,Y,Y,Y,Z,Z] rfl rfl (by kernel_rfl) (fun _ _ _ h => h) (Or.inl ⟨by rfl, ?_⟩) hHeld ?_ ?_
              rotate_left
              ·rintro w' ⟨s0, s1, s2, s3⟩
               go_simp
               with_reducible rfl
              rotate_left
              ·simp only [Act.put, List.setIfInBounds_toArray, List.set_cons_zero, List.set_cons_succ, i64_w, i32_w]
               rfl
              refine pure_ (i := 5) (N := some 94) (v := ?_) (a' := ?_) #[Y,Y,Y,Y,Y,Y,Z] rfl rfl (by kernel_rfl) (fun _ _ _ h => h) (Or.inl ⟨by rfl, ?_⟩) ?_ ?_
              rotate_left
              ·intro w'
               go_simp
               with_reducible rfl
              rotate_left
              ·simp only [Act.put, List.setIfInBounds_toArray, List.set_cons_zero, List.set_cons_succ, i64_w, i32_w]
               rfl
              refine pure_ (i := 6) (N := some 14) (v := ?_) (a' := ?_) #[Y,Y,Y,Y,Y,Y,Y] rfl rfl (by kernel_rfl) (fun _ _ _ h => h) (Or.inl ⟨by rfl, ?_⟩) ?_ ?_
              rotate_left
              ·intro w'
               go_simp
               with_reducible rfl
              rotate_left
              ·simp only [Act.put, List.setIfInBounds_toArray, List.set_cons_zero, List.set_cons_succ, i64_w, i32_w]
               rfl
              refine done_ (by kernel_rfl) ?_
              go_upto_region 13 with (fail)
              go_cut [15] (fun v15 wc => ∃ (kq : Nat) (x15_20 : Bool), v15 = .bool x15_20 ∧ Aside0 (laws_FnCuts.j0 kq t300 t305 t310 (Int.tmod (rd t289 4) t281) (Int.tmod (rd t289 5) t282) x15_20 t281 t282 t283 t284 t285 t286 t297 t298 t299 t302 t303 t304 t307 t308 t309 = some true) ∧ Aside0 (kq ≤ k) ∧ Aside0 (wc.heap[gb287]? = some (.cells #[.int .i64 t281, .int .i64 t282, .string t283] 25 (0, 0))) ∧ Aside0 (wc.heap[gb288]? = some (.cells #[.int .i64 t284, .int .i64 t285, .string t286] 25 (0, 0))) ∧ Aside0 (wc.heap[gb294]? = some (.cells #[.int .i64 (Int.tmod (rd t289 0) t284), .int .i64 (Int.tmod (rd t289 1) t285), .int .i64 (wrap64 (1 + (Int.tmod (rd t289 2) (wrap64 (t284 - (Int.tmod (rd t289 0) t284)))))), .int .i64 (wrap64 (1 + (Int.tmod (rd t289 3) (wrap64 (t285 - (Int.tmod (rd t289 1) t285))))))] 38 (0, 0))) ∧ Aside0 (wc.heap[gb301]? = some (.cells #[.int .i64 t297, .int .i64 t298, .string t299] 25 (0, 0))) ∧ Aside0 (wc.heap[gb306]? = some (.cells #[.int .i64 t302, .int .i64 t303, .string t304] 25 (0, 0))) ∧ Aside0 (wc.heap[gb311]? = some (.cells #[.int .i64 t307, .int .i64 t308, .string t309] 25 (0, 0))) ∧ Aside0 (Below w.heap.size w wc))
              case first =>
               have H := HC21.out
               clear HC21
               by_cases c73 : (Int.tmod (rd t289 4) t281) ≥ (Int.tmod (rd t289 0) t284)
               ·rw [if_pos c73] at H
                have c73b0 : decide ((Int.tmod (rd t289 0) t284) ≤ (Int.tmod (rd t289 4) t281)) = true := decide_eq_true c73
                clear c73
                (first | rw [c73b0] | (simp only [i64_w, i32_w]; rw [c73b0]) | skip)
                by_cases c74 : (Int.tmod (rd t289 4) t281) < (wrap64 ((Int.tmod (rd t289 0) t284) + (wrap64 (1 + (Int.tmod (rd t289 2) (wrap64 (t284 - (Int.tmod (rd t289 0) t284))))))))
                ·rw [if_pos c74] at H
                 have c74b0 : decide ((Int.tmod (rd t289 4) t281) < (wrap64 ((Int.tmod (rd t289 0) t284) + (wrap64 (1 + (Int.tmod (rd t289 2) (wrap64 (t284 - (Int.tmod (rd t289 0) t284))))))))) = true := decide_eq_true c74
                 clear c74
                 by_cases c75 : (Int.tmod (rd t289 5) t282) ≥ (Int.tmod (rd t289 1) t285)
                 ·rw [if_pos c75] at H
                  have c75b0 : decide ((Int.tmod (rd t289 1) t285) ≤ (Int.tmod (rd t289 5) t282)) = true := decide_eq_true c75
                  clear c75
                  have H' := Aside0.mk H
                  clear H
                  have hnb76 := NB294_287.out
                  have hnc76 := NB287_294.out
                  have hnb77 := NB294_288.out
                  have hnc77 := NB288_294.out
                  have hnb78 := NB294_301.out
                  have hnc78 := NB301_294.out
                  have hnb79 := NB294_306.out
                  have hnc79 := NB306_294.out
                  have hnb80 := NB294_311.out
                  have hnc80 := NB311_294.out
                  have hcz81_0 : w72.cell? ⟨gb294, 0, none⟩ = some (.int .i64 (Int.tmod (rd t289 0) t284)) := (blk_cell BK294.out 0).trans rfl
                  have hcz81_1 : w72.cell? ⟨gb294, 1, none⟩ = some (.int .i64 (Int.tmod (rd t289 1) t285)) := (blk_cell BK294.out 1).trans rfl
                  have hcz81_2 : w72.cell? ⟨gb294, 2, none⟩ = some (.int .i64 (wrap64 (1 + (Int.tmod (rd t289 2) (wrap64 (t284 - (Int.tmod (rd t289 0) t284))))))) := (blk_cell BK294.out 2).trans rfl
                  have hcz81_3 : w72.cell? ⟨gb294, 3, none⟩ = some (.int .i64 (wrap64 (1 + (Int.tmod (rd t289 3) (wrap64 (t285 - (Int.tmod (rd t289 1) t285))))))) := (blk_cell BK294.out 3).trans rfl
                  have hfz81_0 := blk_frozen BK294.out 0
                  have hfz81_1 := blk_frozen BK294.out 1
                  have hfz81_2 := blk_frozen BK294.out 2
                  have hfz81_3 := blk_frozen BK294.out 3
                  go_wp2
                  go_meet
                  case rel => exact ⟨_, (decide ((Int.tmod (rd t289 5) t282) < (wrap64 ((Int.tmod (rd t289 1) t285) + (wrap64 (1 + (Int.tmod (rd t289 3) (wrap64 (t285 - (Int.tmod (rd t289 1) t285)))))))))), (by first | rfl | (simp; done) | (simp [*]; done)), H', ⟨by first | omega | exact Nat.le_refl _⟩, ⟨by (with_reducible repeat (first | refine blk_drewN ?_ _ | refine blk_drew ?_ | refine blk_alloc ?_ _)); exact BK287.out⟩, ⟨by (with_reducible repeat (first | refine blk_drewN ?_ _ | refine blk_drew ?_ | refine blk_alloc ?_ _)); exact BK288.out⟩, ⟨by (with_reducible repeat (first | refine blk_drewN ?_ _ | refine blk_drew ?_ | refine blk_alloc ?_ _)); exact BK294.out⟩, ⟨by (with_reducible repeat (first | refine blk_drewN ?_ _ | refine blk_drew ?_ | refine blk_alloc ?_ _)); exact BK301.out⟩, ⟨by (with_reducible repeat (first | refine blk_drewN ?_ _ | refine blk_drew ?_ | refine blk_alloc ?_ _)); exact BK306.out⟩, ⟨by (with_reducible repeat (first | refine blk_drewN ?_ _ | refine blk_drew ?_ | refine blk_alloc ?_ _)); exact BK311.out⟩, ⟨by repeat (first | (with_reducible first | exact HB.out | apply below_alloc | apply pw_below_drewN | apply below_drew1 | refine below_set ?_ GE287.out | refine below_set ?_ GE288.out | refine below_set ?_ GE294.out | refine below_set ?_ GE301.out | refine below_set ?_ GE306.out | refine below_set ?_ GE311.out) | exact HB.out)⟩⟩
                 ·rw [if_neg c75] at H
                  have c75b0 : decide ((Int.tmod (rd t289 1) t285) ≤ (Int.tmod (rd t289 5) t282)) = false := decide_eq_false c75
                  clear c75
                  have H' := Aside0.mk H
                  clear H
                  have hnb82 := NB294_287.out
                  have hnc82 := NB287_294.out
                  have hnb83 := NB294_288.out
                  have hnc83 := NB288_294.out
                  have hnb84 := NB294_301.out
                  have hnc84 := NB301_294.out
                  have hnb85 := NB294_306.out
                  have hnc85 := NB306_294.out
                  have hnb86 := NB294_311.out
                  have hnc86 := NB311_294.out
                  have hcz87_0 : w72.cell? ⟨gb294, 0, none⟩ = some (.int .i64 (Int.tmod (rd t289 0) t284)) := (blk_cell BK294.out 0).trans rfl
                  have hcz87_1 : w72.cell? ⟨gb294, 1, none⟩ = some (.int .i64 (Int.tmod (rd t289 1) t285)) := (blk_cell BK294.out 1).trans rfl
                  have hcz87_2 : w72.cell? ⟨gb294, 2, none⟩ = some (.int .i64 (wrap64 (1 + (Int.tmod (rd t289 2) (wrap64 (t284 - (Int.tmod (rd t289 0) t284))))))) := (blk_cell BK294.out 2).trans rfl
                  have hcz87_3 : w72.cell? ⟨gb294, 3, none⟩ = some (.int .i64 (wrap64 (1 + (Int.tmod (rd t289 3) (wrap64 (t285 - (Int.tmod (rd t289 1) t285))))))) := (blk_cell BK294.out 3).trans rfl
                  have hfz87_0 := blk_frozen BK294.out 0
                  have hfz87_1 := blk_frozen BK294.out 1
                  have hfz87_2 := blk_frozen BK294.out 2
                  have hfz87_3 := blk_frozen BK294.out 3
                  go_wp2
                  go_meet
                  case rel => exact ⟨_, (false), (by first | rfl | (simp; done) | (simp [*]; done)), H', ⟨by first | omega | exact Nat.le_refl _⟩, ⟨by (with_reducible repeat (first | refine blk_drewN ?_ _ | refine blk_drew ?_ | refine blk_alloc ?_ _)); exact BK287.out⟩, ⟨by (with_reducible repeat (first | refine blk_drewN ?_ _ | refine blk_drew ?_ | refine blk_alloc ?_ _)); exact BK288.out⟩, ⟨by (with_reducible repeat (first | refine blk_drewN ?_ _ | refine blk_drew ?_ | refine blk_alloc ?_ _)); exact BK294.out⟩, ⟨by (with_reducible repeat (first | refine blk_drewN ?_ _ | refine blk_drew ?_ | refine blk_alloc ?_ _)); exact BK301.out⟩, ⟨by (with_reducible repeat (first | refine blk_drewN ?_ _ | refine blk_drew ?_ | refine blk_alloc ?_ _)); exact BK306.out⟩, ⟨by (with_reducible repeat (first | refine blk_drewN ?_ _ | refine blk_drew ?_ | refine blk_alloc ?_ _)); exact BK311.out⟩, ⟨by repeat (first | (with_reducible first | exact HB.out | apply below_alloc | apply pw_below_drewN | apply below_drew1 | refine below_set ?_ GE287.out | refine below_set ?_ GE288.out | refine below_set ?_ GE294.out | refine below_set ?_ GE301.out | refine below_set ?_ GE306.out | refine below_set ?_ GE311.out) | exact HB.out)⟩⟩
                ·rw [if_neg c74] at H
                 have c74b0 : decide ((Int.tmod (rd t289 4) t281) < (wrap64 ((Int.tmod (rd t289 0) t284) + (wrap64 (1 + (Int.tmod (rd t289 2) (wrap64 (t284 - (Int.tmod (rd t289 0) t284))))))))) = false := decide_eq_false c74
                 clear c74
                 have H' := Aside0.mk H
                 clear H
                 have hnb88 := NB294_287.out
                 have hnc88 := NB287_294.out
                 have hnb89 := NB294_288.out
                 have hnc89 := NB288_294.out
                 have hnb90 := NB294_301.out
                 have hnc90 := NB301_294.out
                 have hnb91 := NB294_306.out
                 have hnc91 := NB306_294.out
                 have hnb92 := NB294_311.out
                 have hnc92 := NB311_294.out
                 have hcz93_0 : w72.cell? ⟨gb294, 0, none⟩ = some (.int .i64 (Int.tmod (rd t289 0) t284)) := (blk_cell BK294.out 0).trans rfl
                 have hcz93_1 : w72.cell? ⟨gb294, 1, none⟩ = some (.int .i64 (Int.tmod (rd t289 1) t285)) := (blk_cell BK294.out 1).trans rfl
                 have hcz93_2 : w72.cell? ⟨gb294, 2, none⟩ = some (.int .i64 (wrap64 (1 + (Int.tmod (rd t289 2) (wrap64 (t284 - (Int.tmod (rd t289 0) t284))))))) := (blk_cell BK294.out 2).trans rfl
                 have hcz93_3 : w72.cell? ⟨gb294, 3, none⟩ = some (.int .i64 (wrap64 (1 + (Int.tmod (rd t289 3) (wrap64 (t285 - (Int.tmod (rd t289 1) t285))))))) := (blk_cell BK294.out 3).trans rfl
                 have hfz93_0 := blk_frozen BK294.out 0
                 have hfz93_1 := blk_frozen BK294.out 1
                 have hfz93_2 := blk_frozen BK294.out 2
                 have hfz93_3 := blk_frozen BK294.out 3
                 go_wp2
                 go_meet
                 case rel => exact ⟨_, (false), (by first | rfl | (simp; done) | (simp [*]; done)), H', ⟨by first | omega | exact Nat.le_refl _⟩, ⟨by (with_reducible repeat (first | refine blk_drewN ?_ _ | refine blk_drew ?_ | refine blk_alloc ?_ _)); exact BK287.out⟩, ⟨by (with_reducible repeat (first | refine blk_drewN ?_ _ | refine blk_drew ?_ | refine blk_alloc ?_ _)); exact BK288.out⟩, ⟨by (with_reducible repeat (first | refine blk_drewN ?_ _ | refine blk_drew ?_ | refine blk_alloc ?_ _)); exact BK294.out⟩, ⟨by (with_reducible repeat (first | refine blk_drewN ?_ _ | refine blk_drew ?_ | refine blk_alloc ?_ _)); exact BK301.out⟩, ⟨by (with_reducible repeat (first | refine blk_drewN ?_ _ | refine blk_drew ?_ | refine blk_alloc ?_ _)); exact BK306.out⟩, ⟨by (with_reducible repeat (first | refine blk_drewN ?_ _ | refine blk_drew ?_ | refine blk_alloc ?_ _)); exact BK311.out⟩, ⟨by repeat (first | (with_reducible first | exact HB.out | apply below_alloc | apply pw_below_drewN | apply below_drew1 | refine below_set ?_ GE287.out | refine below_set ?_ GE288.out | refine below_set ?_ GE294.out | refine below_set ?_ GE301.out | refine below_set ?_ GE306.out | refine below_set ?_ GE311.out) | exact HB.out)⟩⟩
               ·rw [if_neg c73] at H
                have c73b0 : decide ((Int.tmod (rd t289 0) t284) ≤ (Int.tmod (rd t289 4) t281)) = false := decide_eq_false c73
                clear c73
                (first | rw [c73b0] | (simp only [i64_w, i32_w]; rw [c73b0]) | skip)
                have H' := Aside0.mk H
                clear H
                have hnb94 := NB294_287.out
                have hnc94 := NB287_294.out
                have hnb95 := NB294_288.out
                have hnc95 := NB288_294.out
                have hnb96 := NB294_301.out
                have hnc96 := NB301_294.out
                have hnb97 := NB294_306.out
                have hnc97 := NB306_294.out
                have hnb98 := NB294_311.out
                have hnc98 := NB311_294.out
                have hcz99_0 : w72.cell? ⟨gb294, 0, none⟩ = some (.int .i64 (Int.tmod (rd t289 0) t284)) := (blk_cell BK294.out 0).trans rfl
                have hcz99_1 : w72.cell? ⟨gb294, 1, none⟩ = some (.int .i64 (Int.tmod (rd t289 1) t285)) := (blk_cell BK294.out 1).trans rfl
                have hcz99_2 : w72.cell? ⟨gb294, 2, none⟩ = some (.int .i64 (wrap64 (1 + (Int.tmod (rd t289 2) (wrap64 (t284 - (Int.tmod (rd t289 0) t284))))))) := (blk_cell BK294.out 2).trans rfl
                have hcz99_3 : w72.cell? ⟨gb294, 3, none⟩ = some (.int .i64 (wrap64 (1 + (Int.tmod (rd t289 3) (wrap64 (t285 - (Int.tmod (rd t289 1) t285))))))) := (blk_cell BK294.out 3).trans rfl
                have hfz99_0 := blk_frozen BK294.out 0
                have hfz99_1 := blk_frozen BK294.out 1
                have hfz99_2 := blk_frozen BK294.out 2
                have hfz99_3 := blk_frozen BK294.out 3
                go_wp2
                go_meet
                case rel => exact ⟨_, (false), (by first | rfl | (simp; done) | (simp [*]; done)), H', ⟨by first | omega | exact Nat.le_refl _⟩, ⟨by (with_reducible repeat (first | refine blk_drewN ?_ _ | refine blk_drew ?_ | refine blk_alloc ?_ _)); exact BK287.out⟩, ⟨by (with_reducible repeat (first | refine blk_drewN ?_ _ | refine blk_drew ?_ | refine blk_alloc ?_ _)); exact BK288.out⟩, ⟨by (with_reducible repeat (first | refine blk_drewN ?_ _ | refine blk_drew ?_ | refine blk_alloc ?_ _)); exact BK294.out⟩, ⟨by (with_reducible repeat (first | refine blk_drewN ?_ _ | refine blk_drew ?_ | refine blk_alloc ?_ _)); exact BK301.out⟩, ⟨by (with_reducible repeat (first | refine blk_drewN ?_ _ | refine blk_drew ?_ | refine blk_alloc ?_ _)); exact BK306.out⟩, ⟨by (with_reducible repeat (first | refine blk_drewN ?_ _ | refine blk_drew ?_ | refine blk_alloc ?_ _)); exact BK311.out⟩, ⟨by repeat (first | (with_reducible first | exact HB.out | apply below_alloc | apply pw_below_drewN | apply below_drew1 | refine below_set ?_ GE287.out | refine below_set ?_ GE288.out | refine below_set ?_ GE294.out | refine below_set ?_ GE301.out | refine below_set ?_ GE306.out | refine below_set ?_ GE311.out) | exact HB.out)⟩⟩
              case rest =>
               clear HC21
               try clear c1
               try clear p2
               try clear q2
               try clear hx2
               try clear qi2
               try clear p3
               try clear q3
               try clear hx3
               try clear qi3
               try clear c4
               try clear c5
               try clear c6
               try clear p6
               try clear c7
               try clear c8
               try clear c9
               try clear c12
               try clear c17
               try clear p29
               try clear q29
               try clear hx29
               try clear qi29
               try clear p31
               try clear q31
               try clear hx31
               try clear qi31
               try clear c42
               try clear c44
               try clear c48
               try clear c49
               try clear c50
               try clear c56
               try clear c57
               try clear c58
               try clear c59
               try clear c64
               try clear p64
               try clear c65
               try clear c66
               try clear c67
               try clear c68
               try clear c73
               try clear c73b0
               try clear c74
               try clear c74b0
               try clear c75
               try clear c75b0
               try clear c76
               try clear c77
               try clear c78
               try clear c79
               try clear c80
               try clear c82
               try clear c83
               try clear c84
               try clear c85
               try clear c86
               try clear c88
               try clear c89
               try clear c90
               try clear c91
               try clear c92
               try clear c94
               try clear c95
               try clear c96
               try clear c97
               try clear c98
               try clear hcz43_0
               try clear hcz43_1
               try clear hcz43_2
               try clear hcz45_0
               try clear hcz45_1
               try clear hcz45_2
               try clear hcz45_3
               try clear hcz51_0
               try clear hcz51_1
               try clear hcz51_2
               try clear hcz52_0
               try clear hcz52_1
               try clear hcz52_2
               try clear hcz53_0
               try clear hcz53_1
               try clear hcz53_2
               try clear hcz53_3
               try clear hcz60_0
               try clear hcz60_1
               try clear hcz60_2
               try clear hcz61_0
               try clear hcz61_1
               try clear hcz61_2
               try clear hcz61_3
               try clear hcz69_0
               try clear hcz69_1
               try clear hcz69_2
               try clear hcz81_0
               try clear hcz81_1
               try clear hcz81_2
               try clear hcz81_3
               try clear hcz87_0
               try clear hcz87_1
               try clear hcz87_2
               try clear hcz87_3
               try clear hcz93_0
               try clear hcz93_1
               try clear hcz93_2
               try clear hcz93_3
               try clear hcz99_0
               try clear hcz99_1
               try clear hcz99_2
               try clear hcz99_3
               try clear hfz43_0
               try clear hfz43_1
               try clear hfz43_2
               try clear hfz45_0
               try clear hfz45_1
               try clear hfz45_2
               try clear hfz45_3
               try clear hfz51_0
               try clear hfz51_1
               try clear hfz51_2
               try clear hfz52_0
               try clear hfz52_1
               try clear hfz52_2
               try clear hfz53_0
               try clear hfz53_1
               try clear hfz53_2
               try clear hfz53_3
               try clear hfz60_0
               try clear hfz60_1
               try clear hfz60_2
               try clear hfz61_0
               try clear hfz61_1
               try clear hfz61_2
               try clear hfz61_3
               try clear hfz69_0
               try clear hfz69_1
               try clear hfz69_2
               try clear hfz81_0
               try clear hfz81_1
               try clear hfz81_2
               try clear hfz81_3
               try clear hfz87_0
               try clear hfz87_1
               try clear hfz87_2
               try clear hfz87_3
               try clear hfz93_0
               try clear hfz93_1
               try clear hfz93_2
               try clear hfz93_3
               try clear hfz99_0
               try clear hfz99_1
               try clear hfz99_2
               try clear hfz99_3
               try clear hx296_0
               try clear hx312_0
               try clear hx313_0
               try clear p296
               try clear p312
               try clear p313
               try clear q296
               try clear q312
               try clear q313
               obtain ⟨kq, x15_20, rfl, HA, HJ20, BK287, BK288, BK294, BK301, BK306, BK311, HB⟩ := hcut
               cases kq with
               | zero => exact absurd HA.out (by simp [laws_FnCuts.j0])
               | succ kj20 =>
                have H := HA.out
                clear HA
                simp only [laws_FnCuts.j0] at H
                obtain ⟨ji100, hji100⟩ : ∃ j_ : Int, (wrap64 ((wrap64 ((Int.tmod (rd t289 5) t282) * t281)) + (Int.tmod (rd t289 4) t281))) = j_ := ⟨_, rfl⟩
                replace H : (if 0 ≤ (ji100) then (if (ji100) < (t283.size : Int) then (if x15_20 = true then (if (ji100) < (t286.size : Int) then (laws_FnCuts.j1 kj20 t300 t305 t310 (Int.tmod (rd t289 4) t281) (Int.tmod (rd t289 5) t282) (wrap64 (bt t286 (ji100))) t281 t282 t283 t284 t285 t286 t297 t298 t299 t302 t303 t304 t307 t308 t309) else (none)) else (laws_FnCuts.j1 kj20 t300 t305 t310 (Int.tmod (rd t289 4) t281) (Int.tmod (rd t289 5) t282) (wrap64 (bt t283 (ji100))) t281 t282 t283 t284 t285 t286 t297 t298 t299 t302 t303 t304 t307 t308 t309)) else (none)) else (none)) = some true := by first | (rw [hji100] at H; exact H) | (simp only [hji100] at H ⊢; exact H)
                have hji100w : (IntKind.i64.wrap ((wrap64 ((Int.tmod (rd t289 5) t282) * t281)) + (Int.tmod (rd t289 4) t281))) = ji100 := (i64_w _).trans hji100
                by_cases c101 : 0 ≤ (ji100)
                ·rw [if_pos c101] at H
                 have c101b0 : decide (0 ≤ (ji100)) = true := decide_eq_true c101
                 clear c101
                 by_cases c102 : (ji100) < (t283.size : Int)
                 ·rw [if_pos c102] at H
                  have c102b0 : decide ((ji100) < (t283.size : Int)) = true := decide_eq_true c102
                  clear c102
                  have HC104 := Aside0.mk H
                  clear H
                  have hnb105 := NB287_288.out
                  have hnc105 := NB288_287.out
                  have hnb106 := NB287_294.out
                  have hnc106 := NB294_287.out
                  have hnb107 := NB287_301.out
                  have hnc107 := NB301_287.out
                  have hnb108 := NB287_306.out
                  have hnc108 := NB306_287.out
                  have hnb109 := NB287_311.out
                  have hnc109 := NB311_287.out
                  have hcz110_0 : wc.cell? ⟨gb287, 0, none⟩ = some (.int .i64 t281) := (blk_cell BK287.out 0).trans rfl
                  have hcz110_1 : wc.cell? ⟨gb287, 1, none⟩ = some (.int .i64 t282) := (blk_cell BK287.out 1).trans rfl
                  have hcz110_2 : wc.cell? ⟨gb287, 2, none⟩ = some (.string t283) := (blk_cell BK287.out 2).trans rfl
                  have hfz110_0 := blk_frozen BK287.out 0
                  have hfz110_1 := blk_frozen BK287.out 1
                  have hfz110_2 := blk_frozen BK287.out 2
                  have p103 : 0 ≤ ((ji100) : Int) := of_decide_eq_true (by first | (with_reducible assumption) | assumption)
                  have q103 : (ji100) < (t283.size : Int) := of_decide_eq_true (by first | (with_reducible assumption) | assumption)
                  have hx103 := bt_at t283 (ji100)
                  replace p103 := eq_true p103
                  replace q103 := eq_true q103
                  go_upto_if 133 with (fail)
                  go_cut [16] (fun v16 wc => ∃ (kq : Nat) (x16_103 : Int), v16 = .int .i64 x16_103 ∧ Aside0 (laws_FnCuts.j1 kq t300 t305 t310 (Int.tmod (rd t289 4) t281) (Int.tmod (rd t289 5) t282) x16_103 t281 t282 t283 t284 t285 t286 t297 t298 t299 t302 t303 t304 t307 t308 t309 = some true) ∧ Aside0 (kq ≤ kj20) ∧ Aside0 (wc.heap[gb287]? = some (.cells #[.int .i64 t281, .int .i64 t282, .string t283] 25 (0, 0))) ∧ Aside0 (wc.heap[gb288]? = some (.cells #[.int .i64 t284, .int .i64 t285, .string t286] 25 (0, 0))) ∧ Aside0 (wc.heap[gb294]? = some (.cells #[.int .i64 (Int.tmod (rd t289 0) t284), .int .i64 (Int.tmod (rd t289 1) t285), .int .i64 (wrap64 (1 + (Int.tmod (rd t289 2) (wrap64 (t284 - (Int.tmod (rd t289 0) t284)))))), .int .i64 (wrap64 (1 + (Int.tmod (rd t289 3) (wrap64 (t285 - (Int.tmod (rd t289 1) t285))))))] 38 (0, 0))) ∧ Aside0 (wc.heap[gb301]? = some (.cells #[.int .i64 t297, .int .i64 t298, .string t299] 25 (0, 0))) ∧ Aside0 (wc.heap[gb306]? = some (.cells #[.int .i64 t302, .int .i64 t303, .string t304] 25 (0, 0))) ∧ Aside0 (wc.heap[gb311]? = some (.cells #[.int .i64 t307, .int .i64 t308, .string t309] 25 (0, 0))) ∧ Aside0 (Below w.heap.size w wc))
                  case first =>
                   have H := HC104.out
                   clear HC104
                   by_cases c111 : x15_20 = true
                   ·subst c111
                    have H1 : (if (ji100) < (t286.size : Int) then (laws_FnCuts.j1 kj20 t300 t305 t310 (Int.tmod (rd t289 4) t281) (Int.tmod (rd t289 5) t282) (wrap64 (bt t286 (ji100))) t281 t282 t283 t284 t285 t286 t297 t298 t299 t302 t303 t304 t307 t308 t309) else (none)) = some true := by rw [if_pos rfl] at H; exact H
                    clear H
                    have H := H1
                    clear H1
                    by_cases c112 : (ji100) < (t286.size : Int)
                    ·rw [if_pos c112] at H
                     have c112b0 : decide ((ji100) < (t286.size : Int)) = true := decide_eq_true c112
                     clear c112
                     (first | rw [c112b0] | (simp only [i64_w, i32_w]; rw [c112b0]) | skip)
                     have H' := Aside0.mk H
                     clear H
                     have hnb114 := NB288_287.out
                     have hnc114 := NB287_288.out
                     have hnb115 := NB288_294.out
                     have hnc115 := NB294_288.out
                     have hnb116 := NB288_301.out
                     have hnc116 := NB301_288.out
                     have hnb117 := NB288_306.out
                     have hnc117 := NB306_288.out
                     have hnb118 := NB288_311.out
                     have hnc118 := NB311_288.out
                     have hcz119_0 : wc.cell? ⟨gb288, 0, none⟩ = some (.int .i64 t284) := (blk_cell BK288.out 0).trans rfl
                     have hcz119_1 : wc.cell? ⟨gb288, 1, none⟩ = some (.int .i64 t285) := (blk_cell BK288.out 1).trans rfl
                     have hcz119_2 : wc.cell? ⟨gb288, 2, none⟩ = some (.string t286) := (blk_cell BK288.out 2).trans rfl
                     have hfz119_0 := blk_frozen BK288.out 0
                     have hfz119_1 := blk_frozen BK288.out 1
                     have hfz119_2 := blk_frozen BK288.out 2
                     have hnb120 := NB287_294.out
                     have hnc120 := NB294_287.out
                     have hnb121 := NB287_301.out
                     have hnc121 := NB301_287.out
                     have hnb122 := NB287_306.out
                     have hnc122 := NB306_287.out
                     have hnb123 := NB287_311.out
                     have hnc123 := NB311_287.out
                     have hcz124_0 : wc.cell? ⟨gb287, 0, none⟩ = some (.int .i64 t281) := (blk_cell BK287.out 0).trans rfl
                     have hcz124_1 : wc.cell? ⟨gb287, 1, none⟩ = some (.int .i64 t282) := (blk_cell BK287.out 1).trans rfl
                     have hcz124_2 : wc.cell? ⟨gb287, 2, none⟩ = some (.string t283) := (blk_cell BK287.out 2).trans rfl
                     have hfz124_0 := blk_frozen BK287.out 0
                     have hfz124_1 := blk_frozen BK287.out 1
                     have hfz124_2 := blk_frozen BK287.out 2
                     have p113 : 0 ≤ ((ji100) : Int) := of_decide_eq_true (by first | (with_reducible assumption) | assumption)
                     have q113 : (ji100) < (t286.size : Int) := of_decide_eq_true (by first | (with_reducible assumption) | assumption)
                     have hx113 := bt_at t286 (ji100)
                     replace p113 := eq_true p113
                     replace q113 := eq_true q113
                     go_wp2
                     go_meet
                     case rel => exact ⟨_, (wrap64 (bt t286 (ji100))), (by first | rfl | (simp; done) | (simp only [← hji100] <;> (first | rfl | simp)) | (simp [*]; done)), H', ⟨by have := HJ20.out; first | omega | exact Nat.le_refl _⟩, ⟨by (with_reducible repeat (first | refine blk_drewN ?_ _ | refine blk_drew ?_ | refine blk_alloc ?_ _)); exact BK287.out⟩, ⟨by (with_reducible repeat (first | refine blk_drewN ?_ _ | refine blk_drew ?_ | refine blk_alloc ?_ _)); exact BK288.out⟩, ⟨by (with_reducible repeat (first | refine blk_drewN ?_ _ | refine blk_drew ?_ | refine blk_alloc ?_ _)); exact BK294.out⟩, ⟨by (with_reducible repeat (first | refine blk_drewN ?_ _ | refine blk_drew ?_ | refine blk_alloc ?_ _)); exact BK301.out⟩, ⟨by (with_reducible repeat (first | refine blk_drewN ?_ _ | refine blk_drew ?_ | refine blk_alloc ?_ _)); exact BK306.out⟩, ⟨by (with_reducible repeat (first | refine blk_drewN ?_ _ | refine blk_drew ?_ | refine blk_alloc ?_ _)); exact BK311.out⟩, ⟨by repeat (first | (with_reducible first | exact HB.out | apply below_alloc | apply pw_below_drewN | apply below_drew1 | refine below_set ?_ GE287.out | refine below_set ?_ GE288.out | refine below_set ?_ GE294.out | refine below_set ?_ GE301.out | refine below_set ?_ GE306.out | refine below_set ?_ GE311.out) | exact HB.out)⟩⟩
                    ·rw [if_neg c112] at H
                     exact absurd H (by simp)
                   ·replace c111 := Bool.eq_false_iff.mpr c111
                    subst c111
                    have H1 : (laws_FnCuts.j1 kj20 t300 t305 t310 (Int.tmod (rd t289 4) t281) (Int.tmod (rd t289 5) t282) (wrap64 (bt t283 (ji100))) t281 t282 t283 t284 t285 t286 t297 t298 t299 t302 t303 t304 t307 t308 t309) = some true := by rw [if_neg (show ¬ (false = true) by decide)] at H; exact H
                    clear H
                    have H := H1
                    clear H1
                    have H' := Aside0.mk H
                    clear H
                    go_wp2
                    go_meet
                    case rel => exact ⟨_, (wrap64 (bt t283 (ji100))), (by first | rfl | (simp; done) | (simp only [← hji100] <;> (first | rfl | simp)) | (simp [*]; done)), H', ⟨by have := HJ20.out; first | omega | exact Nat.le_refl _⟩, ⟨by (with_reducible repeat (first | refine blk_drewN ?_ _ | refine blk_drew ?_ | refine blk_alloc ?_ _)); exact BK287.out⟩, ⟨by (with_reducible repeat (first | refine blk_drewN ?_ _ | refine blk_drew ?_ | refine blk_alloc ?_ _)); exact BK288.out⟩, ⟨by (with_reducible repeat (first | refine blk_drewN ?_ _ | refine blk_drew ?_ | refine blk_alloc ?_ _)); exact BK294.out⟩, ⟨by (with_reducible repeat (first | refine blk_drewN ?_ _ | refine blk_drew ?_ | refine blk_alloc ?_ _)); exact BK301.out⟩, ⟨by (with_reducible repeat (first | refine blk_drewN ?_ _ | refine blk_drew ?_ | refine blk_alloc ?_ _)); exact BK306.out⟩, ⟨by (with_reducible repeat (first | refine blk_drewN ?_ _ | refine blk_drew ?_ | refine blk_alloc ?_ _)); exact BK311.out⟩, ⟨by repeat (first | (with_reducible first | exact HB.out | apply below_alloc | apply pw_below_drewN | apply below_drew1 | refine below_set ?_ GE287.out | refine below_set ?_ GE288.out | refine below_set ?_ GE294.out | refine below_set ?_ GE301.out | refine below_set ?_ GE306.out | refine below_set ?_ GE311.out) | exact HB.out)⟩⟩
                  case rest =>
                   clear HC104
                   try clear c1
                   try clear p1
                   try clear q1
                   try clear hx1
                   try clear p2
                   try clear q2
                   try clear hx2
                   try clear qi2
                   try clear p3
                   try clear q3
                   try clear hx3
                   try clear qi3
                   try clear c4
                   try clear c5
                   try clear c6
                   try clear p6
                   try clear c7
                   try clear c8
                   try clear c9
                   try clear c10
                   try clear p10
                   try clear q10
                   try clear hx10
                   try clear c11
                   try clear p11
                   try clear q11
                   try clear hx11
                   try clear c12
                   try clear c17
                   try clear p29
                   try clear q29
                   try clear hx29
                   try clear qi29
                   try clear p31
                   try clear q31
                   try clear hx31
                   try clear qi31
                   try clear c42
                   try clear c44
                   try clear c48
                   try clear c49
                   try clear c50
                   try clear c56
                   try clear c57
                   try clear c58
                   try clear c59
                   try clear c64
                   try clear p64
                   try clear c65
                   try clear c66
                   try clear c67
                   try clear c68
                   try clear c73
                   try clear c73b0
                   try clear c74
                   try clear c74b0
                   try clear c75
                   try clear c75b0
                   try clear c76
                   try clear c77
                   try clear c78
                   try clear c79
                   try clear c80
                   try clear c82
                   try clear c83
                   try clear c84
                   try clear c85
                   try clear c86
                   try clear c88
                   try clear c89
                   try clear c90
                   try clear c91
                   try clear c92
                   try clear c94
                   try clear c95
                   try clear c96
                   try clear c97
                   try clear c98
                   try clear c101
                   try clear c101b0
                   try clear c102
                   try clear c102b0
                   try clear p103
                   try clear q103
                   try clear hx103
                   try clear c105
                   try clear c106
                   try clear c107
                   try clear c108
                   try clear c109
                   try clear c111
                   try clear c112
                   try clear c112b0
                   try clear p113
                   try clear q113
                   try clear hx113
                   try clear c114
                   try clear c115
                   try clear c116
                   try clear c117
                   try clear c118
                   try clear c120
                   try clear c121
                   try clear c122
                   try clear c123
                   try clear hcz110_0
                   try clear hcz110_1
                   try clear hcz110_2
                   try clear hcz119_0
                   try clear hcz119_1
                   try clear hcz119_2
                   try clear hcz124_0
                   try clear hcz124_1
                   try clear hcz124_2
                   try clear hcz43_0
                   try clear hcz43_1
                   try clear hcz43_2
                   try clear hcz45_0
                   try clear hcz45_1
                   try clear hcz45_2
                   try clear hcz45_3
                   try clear hcz51_0
                   try clear hcz51_1
                   try clear hcz51_2
                   try clear hcz52_0
                   try clear hcz52_1
                   try clear hcz52_2
                   try clear hcz53_0
                   try clear hcz53_1
                   try clear hcz53_2
                   try clear hcz53_3
                   try clear hcz60_0
                   try clear hcz60_1
                   try clear hcz60_2
                   try clear hcz61_0
                   try clear hcz61_1
                   try clear hcz61_2
                   try clear hcz61_3
                   try clear hcz69_0
                   try clear hcz69_1
                   try clear hcz69_2
                   try clear hcz81_0
                   try clear hcz81_1
                   try clear hcz81_2
                   try clear hcz81_3
                   try clear hcz87_0
                   try clear hcz87_1
                   try clear hcz87_2
                   try clear hcz87_3
                   try clear hcz93_0
                   try clear hcz93_1
                   try clear hcz93_2
                   try clear hcz93_3
                   try clear hcz99_0
                   try clear hcz99_1
                   try clear hcz99_2
                   try clear hcz99_3
                   try clear hfz110_0
                   try clear hfz110_1
                   try clear hfz110_2
                   try clear hfz119_0
                   try clear hfz119_1
                   try clear hfz119_2
                   try clear hfz124_0
                   try clear hfz124_1
                   try clear hfz124_2
                   try clear hfz43_0
                   try clear hfz43_1
                   try clear hfz43_2
                   try clear hfz45_0
                   try clear hfz45_1
                   try clear hfz45_2
                   try clear hfz45_3
                   try clear hfz51_0
                   try clear hfz51_1
                   try clear hfz51_2
                   try clear hfz52_0
                   try clear hfz52_1
                   try clear hfz52_2
                   try clear hfz53_0
                   try clear hfz53_1
                   try clear hfz53_2
                   try clear hfz53_3
                   try clear hfz60_0
                   try clear hfz60_1
                   try clear hfz60_2
                   try clear hfz61_0
                   try clear hfz61_1
                   try clear hfz61_2
                   try clear hfz61_3
                   try clear hfz69_0
                   try clear hfz69_1
                   try clear hfz69_2
                   try clear hfz81_0
                   try clear hfz81_1
                   try clear hfz81_2
                   try clear hfz81_3
                   try clear hfz87_0
                   try clear hfz87_1
                   try clear hfz87_2
                   try clear hfz87_3
                   try clear hfz93_0
                   try clear hfz93_1
                   try clear hfz93_2
                   try clear hfz93_3
                   try clear hfz99_0
                   try clear hfz99_1
                   try clear hfz99_2
                   try clear hfz99_3
                   try clear hx296_0
                   try clear hx312_0
                   try clear hx313_0
                   try clear p103
                   try clear p113
                   try clear p2
                   try clear p29
                   try clear p296
                   try clear p3
                   try clear p31
                   try clear p312
                   try clear p313
                   try clear p6
                   try clear p64
                   try clear q103
                   try clear q113
                   try clear q2
                   try clear q29
                   try clear q296
                   try clear q3
                   try clear q31
                   try clear q312
                   try clear q313
                   obtain ⟨kq, x16_103, rfl, HA, HJ103, BK287, BK288, BK294, BK301, BK306, BK311, HB⟩ := hcut
                   cases kq with
                   | zero => exact absurd HA.out (by simp [laws_FnCuts.j1])
                   | succ kj103 =>
                    have H := HA.out
                    clear HA
                    simp only [laws_FnCuts.j1] at H
                    by_cases c125 : t300 = true
                    ·subst c125
                     have H1 : (if t305 = true then (if t310 = true then (if (t307 == t297 && (t308 == t298 && (t309.toList == t299.toList))) = true then ((impl_DotAt.f t302 t303 t304 (Int.tmod (rd t289 4) t281) (Int.tmod (rd t289 5) t282)).bind fun t314 => (if t314 = x16_103 then ((impl_Apart.f kj103 t281 t282 t283 t284 t285 t286).bind fun t315 => ((impl_Apart.f kj103 t284 t285 t286 t281 t282 t283).bind fun t316 => (if t315 = t316 then ((impl_Apart.f kj103 t281 t282 t283 t284 t285 t286).bind fun t317 => (if ((t317 == 0) == (t281 == t284 && (t282 == t285 && (t283.toList == t286.toList)))) = true then ((impl_Apart.f kj103 t281 t282 t283 t284 t285 t286).bind fun t318 => ((impl_Apart.f kj103 t302 t303 t304 t284 t285 t286).bind fun t319 => (if t318 ≥ t319 then ((impl_Apart.f kj103 t281 t282 t283 t281 t282 t283).bind fun t320 => (some (t320 == 0))) else (some false)))) else (some false))) else (some false)))) else (some false))) else (some false)) else (some false)) else (some false)) = some true := by rw [if_pos rfl] at H; exact H
                     clear H
                     have H := H1
                     clear H1
                     by_cases c126 : t305 = true
                     ·subst c126
                      have H1 : (if t310 = true then (if (t307 == t297 && (t308 == t298 && (t309.toList == t299.toList))) = true then ((impl_DotAt.f t302 t303 t304 (Int.tmod (rd t289 4) t281) (Int.tmod (rd t289 5) t282)).bind fun t314 => (if t314 = x16_103 then ((impl_Apart.f kj103 t281 t282 t283 t284 t285 t286).bind fun t315 => ((impl_Apart.f kj103 t284 t285 t286 t281 t282 t283).bind fun t316 => (if t315 = t316 then ((impl_Apart.f kj103 t281 t282 t283 t284 t285 t286).bind fun t317 => (if ((t317 == 0) == (t281 == t284 && (t282 == t285 && (t283.toList == t286.toList)))) = true then ((impl_Apart.f kj103 t281 t282 t283 t284 t285 t286).bind fun t318 => ((impl_Apart.f kj103 t302 t303 t304 t284 t285 t286).bind fun t319 => (if t318 ≥ t319 then ((impl_Apart.f kj103 t281 t282 t283 t281 t282 t283).bind fun t320 => (some (t320 == 0))) else (some false)))) else (some false))) else (some false)))) else (some false))) else (some false)) else (some false)) = some true := by rw [if_pos rfl] at H; exact H
                      clear H
                      have H := H1
                      clear H1
                      by_cases c127 : t310 = true
                      ·subst c127
                       have H1 : (if (t307 == t297 && (t308 == t298 && (t309.toList == t299.toList))) = true then ((impl_DotAt.f t302 t303 t304 (Int.tmod (rd t289 4) t281) (Int.tmod (rd t289 5) t282)).bind fun t314 => (if t314 = x16_103 then ((impl_Apart.f kj103 t281 t282 t283 t284 t285 t286).bind fun t315 => ((impl_Apart.f kj103 t284 t285 t286 t281 t282 t283).bind fun t316 => (if t315 = t316 then ((impl_Apart.f kj103 t281 t282 t283 t284 t285 t286).bind fun t317 => (if ((t317 == 0) == (t281 == t284 && (t282 == t285 && (t283.toList == t286.toList)))) = true then ((impl_Apart.f kj103 t281 t282 t283 t284 t285 t286).bind fun t318 => ((impl_Apart.f kj103 t302 t303 t304 t284 t285 t286).bind fun t319 => (if t318 ≥ t319 then ((impl_Apart.f kj103 t281 t282 t283 t281 t282 t283).bind fun t320 => (some (t320 == 0))) else (some false)))) else (some false))) else (some false)))) else (some false))) else (some false)) = some true := by rw [if_pos rfl] at H; exact H
                       clear H
                       have H := H1
                       clear H1
                       by_cases c128 : (t307 == t297 && (t308 == t298 && (t309.toList == t299.toList))) = true
                       ·rw [if_pos c128] at H
                        have c128b0 : (t307 == t297 && (t308 == t298 && (t309.toList == t299.toList))) = true := c128
                        (try (have c128b1 : decide (t307 = t297 && (t308 == t298 && (t309.toList == t299.toList))) = true := by simpa using c128))
                        (try (have c128b2 : (t307 == t297 && (t308 == t298 && (t309.toList == t299.toList))) = true := by simpa using c128))
                        clear c128
                        replace H := Option.bind_eq_some_iff.mp H
                        obtain ⟨t314, A1290, H⟩ := H
                        replace H : (if t314 = x16_103 then ((impl_Apart.f kj103 t281 t282 t283 t284 t285 t286).bind fun t315 => ((impl_Apart.f kj103 t284 t285 t286 t281 t282 t283).bind fun t316 => (if t315 = t316 then ((impl_Apart.f kj103 t281 t282 t283 t284 t285 t286).bind fun t317 => (if ((t317 == 0) == (t281 == t284 && (t282 == t285 && (t283.toList == t286.toList)))) = true then ((impl_Apart.f kj103 t281 t282 t283 t284 t285 t286).bind fun t318 => ((impl_Apart.f kj103 t302 t303 t304 t284 t285 t286).bind fun t319 => (if t318 ≥ t319 then ((impl_Apart.f kj103 t281 t282 t283 t281 t282 t283).bind fun t320 => (some (t320 == 0))) else (some false)))) else (some false))) else (some false)))) else (some false)) = some true := H
                        have A129 := Aside0.mk A1290
                        clear A1290
                        by_cases c130 : t314 = x16_103
                        ·rw [if_pos c130] at H
                         have c130b0 : (t314 == x16_103) = true := beq_iff_eq.mpr c130
                         have c130b1 : (t314 != x16_103) = false := bne_eq_false_iff_eq.mpr c130
                         clear c130
                         replace H := Option.bind_eq_some_iff.mp H
                         obtain ⟨t315, A1310, H⟩ := H
                         replace H : ((impl_Apart.f kj103 t284 t285 t286 t281 t282 t283).bind fun t316 => (if t315 = t316 then ((impl_Apart.f kj103 t281 t282 t283 t284 t285 t286).bind fun t317 => (if ((t317 == 0) == (t281 == t284 && (t282 == t285 && (t283.toList == t286.toList)))) = true then ((impl_Apart.f kj103 t281 t282 t283 t284 t285 t286).bind fun t318 => ((impl_Apart.f kj103 t302 t303 t304 t284 t285 t286).bind fun t319 => (if t318 ≥ t319 then ((impl_Apart.f kj103 t281 t282 t283 t281 t282 t283).bind fun t320 => (some (t320 == 0))) else (some false)))) else (some false))) else (some false))) = some true := H
                         have A131 := Aside0.mk A1310
                         clear A1310
                         replace H := Option.bind_eq_some_iff.mp H
                         obtain ⟨t316, A1320, H⟩ := H
                         replace H : (if t315 = t316 then ((impl_Apart.f kj103 t281 t282 t283 t284 t285 t286).bind fun t317 => (if ((t317 == 0) == (t281 == t284 && (t282 == t285 && (t283.toList == t286.toList)))) = true then ((impl_Apart.f kj103 t281 t282 t283 t284 t285 t286).bind fun t318 => ((impl_Apart.f kj103 t302 t303 t304 t284 t285 t286).bind fun t319 => (if t318 ≥ t319 then ((impl_Apart.f kj103 t281 t282 t283 t281 t282 t283).bind fun t320 => (some (t320 == 0))) else (some false)))) else (some false))) else (some false)) = some true := H
                         have A132 := Aside0.mk A1320
                         clear A1320
                         by_cases c133 : t315 = t316
                         ·rw [if_pos c133] at H
                          have c133b0 : (t315 == t316) = true := beq_iff_eq.mpr c133
                          have c133b1 : (t315 != t316) = false := bne_eq_false_iff_eq.mpr c133
                          clear c133
                          replace H := Option.bind_eq_some_iff.mp H
                          obtain ⟨t317, A1340, H⟩ := H
                          replace H : (if ((t317 == 0) == (t281 == t284 && (t282 == t285 && (t283.toList == t286.toList)))) = true then ((impl_Apart.f kj103 t281 t282 t283 t284 t285 t286).bind fun t318 => ((impl_Apart.f kj103 t302 t303 t304 t284 t285 t286).bind fun t319 => (if t318 ≥ t319 then ((impl_Apart.f kj103 t281 t282 t283 t281 t282 t283).bind fun t320 => (some (t320 == 0))) else (some false)))) else (some false)) = some true := H
                          have A134 := Aside0.mk A1340
                          clear A1340
                          by_cases c135 : ((t317 == 0) == (t281 == t284 && (t282 == t285 && (t283.toList == t286.toList)))) = true
                          ·rw [if_pos c135] at H
                           have c135b0 : ((t317 == 0) == (t281 == t284 && (t282 == t285 && (t283.toList == t286.toList)))) = true := c135
                           (try (have c135b1 : decide ((t317 == 0) = (t281 == t284 && (t282 == t285 && (t283.toList == t286.toList)))) = true := by simpa using c135))
                           (try (have c135b2 : ((t317 == 0) == (t281 == t284 && (t282 == t285 && (t283.toList == t286.toList)))) = true := by simpa using c135))
                           clear c135
                           replace H := Option.bind_eq_some_iff.mp H
                           obtain ⟨t318, A1360, H⟩ := H
                           replace H : ((impl_Apart.f kj103 t302 t303 t304 t284 t285 t286).bind fun t319 => (if t318 ≥ t319 then ((impl_Apart.f kj103 t281 t282 t283 t281 t282 t283).bind fun t320 => (some (t320 == 0))) else (some false))) = some true := H
                           have A136 := Aside0.mk A1360
                           clear A1360
                           replace H := Option.bind_eq_some_iff.mp H
                           obtain ⟨t319, A1370, H⟩ := H
                           replace H : (if t318 ≥ t319 then ((impl_Apart.f kj103 t281 t282 t283 t281 t282 t283).bind fun t320 => (some (t320 == 0))) else (some false)) = some true := H
                           have A137 := Aside0.mk A1370
                           clear A1370
                           by_cases c138 : t318 ≥ t319
                           ·rw [if_pos c138] at H
                            have c138b0 : decide (t319 ≤ t318) = true := decide_eq_true c138
                            clear c138
                            replace H := Option.bind_eq_some_iff.mp H
                            obtain ⟨t320, A1390, H⟩ := H
                            replace H : (some (t320 == 0)) = some true := H
                            have A139 := Aside0.mk A1390
                            clear A1390
                            have hfin_ := Option.some.inj H
                            try go_wp2
                            have n0_ := Aside0.mk (blk_drew BK287.out)
                            have n1_ := Aside0.mk (blk_drew BK288.out)
                            have n2_ := Aside0.mk (blk_drew BK294.out)
                            have n3_ := Aside0.mk (blk_drew BK301.out)
                            have n4_ := Aside0.mk (blk_drew BK306.out)
                            have n5_ := Aside0.mk (blk_drew BK311.out)
                            have n6_ := Aside0.mk (below_drew1 HB.out)
                            clear BK287
                            clear BK288
                            clear BK294
                            clear BK301
                            clear BK306
                            clear BK311
                            clear HB
                            have BK287 := n0_
                            have BK288 := n1_
                            have BK294 := n2_
                            have BK301 := n3_
                            have BK306 := n4_
                            have BK311 := n5_
                            have HB := n6_
                            clear n0_ n1_ n2_ n3_ n4_ n5_ n6_
                            refine start_ (n := 55) (S := fun w' => w'.cell? ⟨gb311, 0, none⟩ = some (.int .i64 t307) ∧ w'.cell? ⟨gb311, 1, none⟩ = some (.int .i64 t308) ∧ w'.cell? ⟨gb311, 2, none⟩ = some (.string t309) ∧ w'.cell? ⟨gb301, 0, none⟩ = some (.int .i64 t297) ∧ w'.cell? ⟨gb301, 1, none⟩ = some (.int .i64 t298) ∧ w'.cell? ⟨gb301, 2, none⟩ = some (.string t299) ∧ w'.cell? ⟨gb306, 0, none⟩ = some (.int .i64 t302) ∧ w'.cell? ⟨gb306, 1, none⟩ = some (.int .i64 t303) ∧ w'.cell? ⟨gb306, 2, none⟩ = some (.string t304) ∧ w'.cell? ⟨gb287, 0, none⟩ = some (.int .i64 t281) ∧ w'.cell? ⟨gb287, 1, none⟩ = some (.int .i64 t282) ∧ w'.cell? ⟨gb287, 2, none⟩ = some (.string t283) ∧ w'.cell? ⟨gb288, 0, none⟩ = some (.int .i64 t284) ∧ w'.cell? ⟨gb288, 1, none⟩ = some (.int .i64 t285) ∧ w'.cell? ⟨gb288, 2, none⟩ = some (.string t286)) (ds := []) #[Z,Z,Z,Z,Z,Z,Z,Z,Z,Z,Z,Z,Z,Z,Z,Z,Z,Z,Z,Z,Z,Z,Z,Z,Z,Z,Z,Z,Z,Z,Z,Z,Z,Z,Z,Z,Z,Z,Z,Z,Z,Z,Z,Z,Z,Z,Z,Z,Z,Z,Z,Z,Z,Z,Z] (by kernel_rfl) rfl rfl ⟨(blk_cell BK311.out 0).trans rfl, (blk_cell BK311.out 1).trans rfl, (blk_cell BK311.out 2).trans rfl, (blk_cell BK301.out 0).trans rfl, (blk_cell BK301.out 1).trans rfl, (blk_cell BK301.out 2).trans rfl, (blk_cell BK306.out 0).trans rfl, (blk_cell BK306.out 1).trans rfl, (blk_cell BK306.out 2).trans rfl, (blk_cell BK287.out 0).trans rfl, (blk_cell BK287.out 1).trans rfl, (blk_cell BK287.out 2).trans rfl, (blk_cell BK288.out 0).trans rfl, (blk_cell BK288.out 1).trans rfl, (blk_cell BK288.out 2).trans rfl⟩ (fun hHeld => ?_); refine with_tabW laws_FnCuts.tab17 laws_FnCuts.bits17 (fun HT_ HW_ => ?_)
                            generalize wc.drew = w140 at BK287 BK288 BK294 BK301 BK306 BK311 HB hHeld ⊢
                            refine pure_ (i := 0) (N := some 144) (v := ?_) (a' := ?_) #[Y,Z,Z,Z,Z,Z,Z,Z,Z,Z,Z,Z,Z,Z,Z,Z,Z,Z,Z,Z,Z,Z,Z,Z,Z,Z,Z,Z,Z,Z,Z,Z,Z,Z,Z,Z,Z,Z,Z,Z,Z,Z,Z,Z,Z,Z,Z,Z,Z,Z,Z,Z,Z,Z,Z] rfl rfl (any_of HT_.out (by kernel_rfl)) (fun _ _ _ h => h) (Or.inl ⟨by rfl, ?_⟩) ?_ ?_
                            rotate_left
                            ·intro w'
                             go_simp
                             with_reducible rfl
                            rotate_left
                            ·simp only [Act.put, List.setIfInBounds_toArray, List.set_cons_zero, List.set_cons_succ, i64_w, i32_w]
                             rfl
                            refine pure_ (i := 1) (N := some 145) (v := ?_) (a' := ?_) #[Y,Y,Z,Z,Z,Z,Z,Z,Z,Z,Z,Z,Z,Z,Z,Z,Z,Z,Z,Z,Z,Z,Z,Z,Z,Z,Z,Z,Z,Z,Z,Z,Z,Z,Z,Z,Z,Z,Z,Z,Z,Z,Z,Z,Z,Z,Z,Z,Z,Z,Z,Z,Z,Z,Z] rfl rfl (any_of HT_.out (by kernel_rfl)) (fun _ _ _ h => h) (Or.inl ⟨by rfl, ?_⟩) ?_ ?_
                            rotate_left
                            ·intro w'
                             go_simp
                             with_reducible rfl
                            rotate_left
                            ·simp only [Act.put, List.setIfInBounds_toArray, List.set_cons_zero, List.set_cons_succ, i64_w, i32_w]
                             rfl
                            refine pure_ (i := 2) (N := some 146) (v := ?_) (a' := ?_) #[Y,Y,Y,Z,Z,Z,Z,Z,Z,Z,Z,Z,Z,Z,Z,Z,Z,Z,Z,Z,Z,Z,Z,Z,Z,Z,Z,Z,Z,Z,Z,Z,Z,Z,Z,Z,Z,Z,Z,Z,Z,Z,Z,Z,Z,Z,Z,Z,Z,Z,Z,Z,Z,Z,Z] rfl rfl (any_of HT_.out (by kernel_rfl)) (fun _ _ _ h => h) (Or.inl ⟨by rfl, ?_⟩) ?_ ?_
                            rotate_left
                            ·intro w'
                             go_simp
                             with_reducible rfl
                            rotate_left
                            ·simp only [Act.put, List.setIfInBounds_toArray, List.set_cons_zero, List.set_cons_succ, i64_w, i32_w]
                             rfl
                            refine pure_ (i := 3) (N := some 147) (v := ?_) (a' := ?_) #[Y,Y,Y,Y,Z,Z,Z,Z,Z,Z,Z,Z,Z,Z,Z,Z,Z,Z,Z,Z,Z,Z,Z,Z,Z,Z,Z,Z,Z,Z,Z,Z,Z,Z,Z,Z,Z,Z,Z,Z,Z,Z,Z,Z,Z,Z,Z,Z,Z,Z,Z,Z,Z,Z,Z] rfl rfl (any_of HT_.out (by kernel_rfl)) (fun _ _ _ h => h) (Or.inl ⟨by rfl, ?_⟩) ?_ ?_
                            rotate_left
                            ·intro w'
                             go_simp
                             with_reducible rfl
                            rotate_left
                            ·simp only [Act.put, List.setIfInBounds_toArray, List.set_cons_zero, List.set_cons_succ, i64_w, i32_w]
                             rfl
                            refine pure_ (i := 4) (N := some 148) (v := ?_) (a' := ?_) #[Y,Y,Y,Y,Y,Z,Z,Z,Z,Z,Z,Z,Z,Z,Z,Z,Z,Z,Z,Z,Z,Z,Z,Z,Z,Z,Z,Z,Z,Z,Z,Z,Z,Z,Z,Z,Z,Z,Z,Z,Z,Z,Z,Z,Z,Z,Z,Z,Z,Z,Z,Z,Z,Z,Z] rfl rfl (any_of HT_.out (by kernel_rfl)) (fun _ _ _ h => h) (Or.inl ⟨by rfl, ?_⟩) ?_ ?_
                            rotate_left
                            ·intro w'
                             go_simp
                             with_reducible rfl
                            rotate_left
                            ·simp only [Act.put, List.setIfInBounds_toArray, List.set_cons_zero, List.set_cons_succ, i64_w, i32_w]
                             rfl
                            refine pure_ (i := 5) (N := some 149) (v := ?_) (a' := ?_) #[Y,Y,Y,Y,Y,Y,Z,Z,Z,Z,Z,Z,Z,Z,Z,Z,Z,Z,Z,Z,Z,Z,Z,Z,Z,Z,Z,Z,Z,Z,Z,Z,Z,Z,Z,Z,Z,Z,Z,Z,Z,Z,Z,Z,Z,Z,Z,Z,Z,Z,Z,Z,Z,Z,Z] rfl rfl (any_of HT_.out (by kernel_rfl)) (fun _ _ _ h => h) (Or.inl ⟨by rfl, ?_⟩) ?_ ?_
                            rotate_left
                            ·intro w'
                             go_simp
                             with_reducible rfl
                            rotate_left
                            ·simp only [Act.put, List.setIfInBounds_toArray, List.set_cons_zero, List.set_cons_succ, i64_w, i32_w]
                             rfl
                            refine pure_ (i := 6) (N := some 150) (v := ?_) (a' := ?_) #[Y,Y,Y,Y,Y,Y,Y,Z,Z,Z,Z,Z,Z,Z,Z,Z,Z,Z,Z,Z,Z,Z,Z,Z,Z,Z,Z,Z,Z,Z,Z,Z,Z,Z,Z,Z,Z,Z,Z,Z,Z,Z,Z,Z,Z,Z,Z,Z,Z,Z,Z,Z,Z,Z,Z] rfl rfl (any_of HT_.out (by kernel_rfl)) (fun _ _ _ h => h) (Or.inl ⟨by rfl, ?_⟩) ?_ ?_
                            rotate_left
                            ·intro w'
                             go_simp
                             with_reducible rfl
                            rotate_left
                            ·simp only [Act.put, List.setIfInBounds_toArray, List.set_cons_zero, List.set_cons_succ, i64_w, i32_w]
                             rfl
                            refine pure_ (i := 7) (N := some 151) (v := ?_) (a' := ?_) #[Y,Y,Y,Y,Y,Y,Y,Y,Z,Z,Z,Z,Z,Z,Z,Z,Z,Z,Z,Z,Z,Z,Z,Z,Z,Z,Z,Z,Z,Z,Z,Z,Z,Z,Z,Z,Z,Z,Z,Z,Z,Z,Z,Z,Z,Z,Z,Z,Z,Z,Z,Z,Z,Z,Z] rfl rfl (any_of HT_.out (by kernel_rfl)) (fun _ _ _ h => h) (Or.inl ⟨by rfl, ?_⟩) ?_ ?_
                            rotate_left
                            ·intro w'
                             go_simp
                             with_reducible rfl
                            rotate_left
                            ·simp only [Act.put, List.setIfInBounds_toArray, List.set_cons_zero, List.set_cons_succ, i64_w, i32_w]
                             rfl
                            refine take_ (i := 8) (N := some 152) (v := ?_) (a' := ?_) #[Y,Y,Y,Y,Y,Y,Y,Y,Y,Z,Z,Z,Z,Z,Z,Z,Z,Z,Z,Z,Z,Z,Z,Z,Z,Z,Z,Z,Z,Z,Z,Z,Z,Z,Z,Z,Z,Z,Z,Z,Z,Z,Z,Z,Z,Z,Z,Z,Z,Z,Z,Z,Z,Z,Z] rfl rfl (take_ofW HT_.out HW_.out (by kernel_rfl)) (fun _ _ _ h => h) (Or.inl ⟨by rfl, ?_⟩) hHeld ?_ ?_
                            rotate_left
                            ·rintro w' ⟨s0, s1, s2, s3, s4, s5, s6, s7, s8, s9, s10, s11, s12, s13, s14⟩
                             go_simp
                             with_reducible rfl
                            rotate_left
                            ·simp only [Act.put, List.setIfInBounds_toArray, List.set_cons_zero, List.set_cons_succ, i64_w, i32_w]
                             rfl
                            refine take_ (i := 9) (N := some 153) (v := ?_) (a' := ?_) #[Y,Y,Y,Y,Y,Y,Y,Y,Y,Y,Z,Z,Z,Z,Z,Z,Z,Z,Z,Z,Z,Z,Z,Z,Z,Z,Z,Z,Z,Z,Z,Z,Z,Z,Z,Z,Z,Z,Z,Z,Z,Z,Z,Z,Z,Z,Z,Z,Z,Z,Z,Z,Z,Z,Z] rfl rfl (take_ofW HT_.out HW_.out (by kernel_rfl)) (fun _ _ _ h => h) (Or.inl ⟨by rfl, ?_⟩) hHeld ?_ ?_
                            rotate_left
                            ·rintro w' ⟨s0, s1, s2, s3, s4, s5, s6, s7, s8, s9, s10, s11, s12, s13, s14⟩
                             go_simp
                             with_reducible rfl
                            rotate_left
                            ·simp only [Act.put, List.setIfInBounds_toArray, List.set_cons_zero, List.set_cons_succ, i64_w, i32_w]
                             rfl
                            refine pure_ (i := 10) (N := some 154) (v := ?_) (a' := ?_) #[Y,Y,Y,Y,Y,Y,Y,Y,Y,Y,Y,Z,Z,Z,Z,Z,Z,Z,Z,Z,Z,Z,Z,Z,Z,Z,Z,Z,Z,Z,Z,Z,Z,Z,Z,Z,Z,Z,Z,Z,Z,Z,Z,Z,Z,Z,Z,Z,Z,Z,Z,Z,Z,Z,Z] rfl rfl (any_of HT_.out (by kernel_rfl)) (fun _ _ _ h => h) (Or.inl ⟨by rfl, ?_⟩) ?_ ?_
                            rotate_left
                            ·intro w'
                             go_simp
                             with_reducible rfl
                            rotate_left
                            ·simp only [Act.put, List.setIfInBounds_toArray, List.set_cons_zero, List.set_cons_succ, i64_w, i32_w]
                             rfl
                            refine pure_ (i := 11) (N := some 155) (v := ?_) (a' := ?_) #[Y,Y,Y,Y,Y,Y,Y,Y,Y,Y,Y,Y,Z,Z,Z,Z,Z,Z,Z,Z,Z,Z,Z,Z,Z,Z,Z,Z,Z,Z,Z,Z,Z,Z,Z,Z,Z,Z,Z,Z,Z,Z,Z,Z,Z,Z,Z,Z,Z,Z,Z,Z,Z,Z,Z] rfl rfl (any_of HT_.out (by kernel_rfl)) (fun _ _ _ h => h) (Or.inl ⟨by rfl, ?_⟩) ?_ ?_
                            rotate_left
                            ·intro w'
                             go_simp
                             with_reducible rfl
                            rotate_left
                            ·simp only [Act.put, List.setIfInBounds_toArray, List.set_cons_zero, List.set_cons_succ, i64_w, i32_w]
                             rfl
                            refine pure_ (i := 12) (N := some 156) (v := ?_) (a' := ?_) #[Y,Y,Y,Y,Y,Y,Y,Y,Y,Y,Y,Y,Y,Z,Z,Z,Z,Z,Z,Z,Z,Z,Z,Z,Z,Z,Z,Z,Z,Z,Z,Z,Z,Z,Z,Z,Z,Z,Z,Z,Z,Z,Z,Z,Z,Z,Z,Z,Z,Z,Z,Z,Z,Z,Z] rfl rfl (any_of HT_.out (by kernel_rfl)) (fun _ _ _ h => h) (Or.inl ⟨by rfl, ?_⟩) ?_ ?_
                            rotate_left
                            ·intro w'
                             go_simp
                             with_reducible rfl
                            rotate_left
                            ·simp only [Act.put, List.setIfInBounds_toArray, List.set_cons_zero, List.set_cons_succ, i64_w, i32_w]
                             rfl
                            refine pure_ (i := 14) (N := some 158) (v := ?_) (a' := ?_) #[Y,Y,Y,Y,Y,Y,Y,Y,Y,Y,Y,Y,Y,Z,Y,Z,Z,Z,Z,Z,Z,Z,Z,Z,Z,Z,Z,Z,Z,Z,Z,Z,Z,Z,Z,Z,Z,Z,Z,Z,Z,Z,Z,Z,Z,Z,Z,Z,Z,Z,Z,Z,Z,Z,Z] rfl rfl (any_of HT_.out (by kernel_rfl)) (fun _ _ _ h => h) (Or.inl ⟨by rfl, ?_⟩) ?_ ?_
                            rotate_left
                            ·intro w'
                             go_simp
                             with_reducible rfl
                            rotate_left
                            ·simp only [Act.put, List.setIfInBounds_toArray, List.set_cons_zero, List.set_cons_succ, i64_w, i32_w]
                             rfl
                            refine pure_ (i := 15) (N := some 159) (v := ?_) (a' := ?_) #[Y,Y,Y,Y,Y,Y,Y,Y,Y,Y,Y,Y,Y,Z,Y,Y,Z,Z,Z,Z,Z,Z,Z,Z,Z,Z,Z,Z,Z,Z,Z,Z,Z,Z,Z,Z,Z,Z,Z,Z,Z,Z,Z,Z,Z,Z,Z,Z,Z,Z,Z,Z,Z,Z,Z] rfl rfl (any_of HT_.out (by kernel_rfl)) (fun _ _ _ h => h) (Or.inl ⟨by rfl, ?_⟩) ?_ ?_
                            rotate_left
                            ·intro w'
                             go_simp
                             with_reducible rfl
                            rotate_left
                            ·simp only [Act.put, List.setIfInBounds_toArray, List.set_cons_zero, List.set_cons_succ, i64_w, i32_w]
                             rfl
                            refine pure_ (i := 17) (N := some 161) (v := ?_) (a' := ?_) #[Y,Y,Y,Y,Y,Y,Y,Y,Y,Y,Y,Y,Y,Z,Y,Y,Z,Y,Z,Z,Z,Z,Z,Z,Z,Z,Z,Z,Z,Z,Z,Z,Z,Z,Z,Z,Z,Z,Z,Z,Z,Z,Z,Z,Z,Z,Z,Z,Z,Z,Z,Z,Z,Z,Z] rfl rfl (any_of HT_.out (by kernel_rfl)) (fun _ _ _ h => h) (Or.inl ⟨by rfl, ?_⟩) ?_ ?_
                            rotate_left
                            ·intro w'
                             go_simp
                             with_reducible rfl
                            rotate_left
                            ·simp only [Act.put, List.setIfInBounds_toArray, List.set_cons_zero, List.set_cons_succ, i64_w, i32_w]
                             rfl
                            refine take_ (i := 13) (N := some 157) (v := ?_) (a' := ?_) #[Y,Y,Y,Y,Y,Y,Y,Y,Y,Y,Y,Y,Y,Y,Y,Y,Z,Y,Z,Z,Z,Z,Z,Z,Z,Z,Z,Z,Z,Z,Z,Z,Z,Z,Z,Z,Z,Z,Z,Z,Z,Z,Z,Z,Z,Z,Z,Z,Z,Z,Z,Z,Z,Z,Z] rfl rfl (take_ofW HT_.out HW_.out (by kernel_rfl)) (fun _ _ _ h => h) (Or.inl ⟨by rfl, ?_⟩) hHeld ?_ ?_
                            rotate_left
                            ·rintro w' ⟨s0, s1, s2, s3, s4, s5, s6, s7, s8, s9, s10, s11, s12, s13, s14⟩
                             go_simp
                             with_reducible rfl
                            rotate_left
                            ·simp only [Act.put, List.setIfInBounds_toArray, List.set_cons_zero, List.set_cons_succ, i64_w, i32_w]
                             rfl
                            refine one_ (i := 16) (N := some 160) #[Y,Y,Y,Y,Y,Y,Y,Y,Y,Y,Y,Y,Y,Y,Y,Y,Y,Y,Z,Z,Z,Z,Z,Z,Z,Z,Z,Z,Z,Z,Z,Z,Z,Z,Z,Z,Z,Z,Z,Z,Z,Z,Z,Z,Z,Z,Z,Z,Z,Z,Z,Z,Z,Z,Z] rfl rfl (one_of HT_.out (by kernel_rfl)) (by decide) (fun K hK => ?_)
                            refine goes_ Try.func18 (by kernel_rfl) rfl #[.agg #[.int .i64 t302, .int .i64 t303, .string t304], .int .i64 (Int.tmod (rd t289 4) t281), .int .i64 (Int.tmod (rd t289 5) t282)] (by rfl) rfl rfl (by (try simp only [List.map_toArray, List.map_cons, List.map_nil]); first | done | rfl | (simp only [List.length_drop, List.length_take]; rfl)) ?_
                            with_reducible refine (impl_DotAt.calls t302 t303 t304 (Int.tmod (rd t289 4) t281) (Int.tmod (rd t289 5) t282) t314 _ A129.out).mono ?_
                            rintro e w141 ⟨rfl, hb⟩
                            refine ⟨_, rfl, ?_⟩
                            have n0_ := Aside0.mk (blk_below (g := gb287) (o := .cells #[.int .i64 t281, .int .i64 t282, .string t283] 25 (0, 0)) (by (with_reducible repeat (first | refine blk_drewN ?_ _ | refine blk_drew ?_ | refine blk_alloc ?_ _)); exact BK287.out) hb)
                            have n1_ := Aside0.mk (blk_below (g := gb288) (o := .cells #[.int .i64 t284, .int .i64 t285, .string t286] 25 (0, 0)) (by (with_reducible repeat (first | refine blk_drewN ?_ _ | refine blk_drew ?_ | refine blk_alloc ?_ _)); exact BK288.out) hb)
                            have n2_ := Aside0.mk (blk_below (g := gb294) (o := .cells #[.int .i64 (Int.tmod (rd t289 0) t284), .int .i64 (Int.tmod (rd t289 1) t285), .int .i64 (wrap64 (1 + (Int.tmod (rd t289 2) (wrap64 (t284 - (Int.tmod (rd t289 0) t284)))))), .int .i64 (wrap64 (1 + (Int.tmod (rd t289 3) (wrap64 (t285 - (Int.tmod (rd t289 1) t285))))))] 38 (0, 0)) (by (with_reducible repeat (first | refine blk_drewN ?_ _ | refine blk_drew ?_ | refine blk_alloc ?_ _)); exact BK294.out) hb)
                            have n3_ := Aside0.mk (blk_below (g := gb301) (o := .cells #[.int .i64 t297, .int .i64 t298, .string t299] 25 (0, 0)) (by (with_reducible repeat (first | refine blk_drewN ?_ _ | refine blk_drew ?_ | refine blk_alloc ?_ _)); exact BK301.out) hb)
                            have n4_ := Aside0.mk (blk_below (g := gb306) (o := .cells #[.int .i64 t302, .int .i64 t303, .string t304] 25 (0, 0)) (by (with_reducible repeat (first | refine blk_drewN ?_ _ | refine blk_drew ?_ | refine blk_alloc ?_ _)); exact BK306.out) hb)
                            have n5_ := Aside0.mk (blk_below (g := gb311) (o := .cells #[.int .i64 t307, .int .i64 t308, .string t309] 25 (0, 0)) (by (with_reducible repeat (first | refine blk_drewN ?_ _ | refine blk_drew ?_ | refine blk_alloc ?_ _)); exact BK311.out) hb)
                            have n6_ := Aside0.mk (below_step (by repeat (first | (with_reducible first | exact HB.out | apply below_alloc | apply pw_below_drewN | apply below_drew1 | refine below_set ?_ GE287.out | refine below_set ?_ GE288.out | refine below_set ?_ GE294.out | refine below_set ?_ GE301.out | refine below_set ?_ GE306.out | refine below_set ?_ GE311.out) | exact HB.out)) hb)
                            clear BK287
                            clear BK288
                            clear BK294
                            clear BK301
                            clear BK306
                            clear BK311
                            clear HB
                            have BK287 := n0_
                            have BK288 := n1_
                            have BK294 := n2_
                            have BK301 := n3_
                            have BK306 := n4_
                            have BK311 := n5_
                            have HB := n6_
                            clear n0_ n1_ n2_ n3_ n4_ n5_ n6_
                            (try clear hb)
                            (try clear hb2)
                            (try clear hk)
                            (try clear hi)
                            refine hK.out _ _ ⟨(blk_cell BK311.out 0).trans rfl, (blk_cell BK311.out 1).trans rfl, (blk_cell BK311.out 2).trans rfl, (blk_cell BK301.out 0).trans rfl, (blk_cell BK301.out 1).trans rfl, (blk_cell BK301.out 2).trans rfl, (blk_cell BK306.out 0).trans rfl, (blk_cell BK306.out 1).trans rfl, (blk_cell BK306.out 2).trans rfl, (blk_cell BK287.out 0).trans rfl, (blk_cell BK287.out 1).trans rfl, (blk_cell BK287.out 2).trans rfl, (blk_cell BK288.out 0).trans rfl, (blk_cell BK288.out 1).trans rfl, (blk_cell BK288.out 2).trans rfl⟩ (fun hHeld => ?_)
                            clear hK K
                            refine norm_ (a' := ?_) ?_ ?_
                            rotate_left
                            ·show Act.put _ (some 160) _ = _
                             simp only [Act.put, List.setIfInBounds_toArray, List.set_cons_zero, List.set_cons_succ, i64_w, i32_w]
                             rfl
                            refine pure_ (i := 18) (N := some 162) (v := ?_) (a' := ?_) #[Y,Y,Y,Y,Y,Y,Y,Y,Y,Y,Y,Y,Y,Y,Y,Y,Y,Y,Y,Z,Z,Z,Z,Z,Z,Z,Z,Z,Z,Z,Z,Z,Z,Z,Z,Z,Z,Z,Z,Z,Z,Z,Z,Z,Z,Z,Z,Z,Z,Z,Z,Z,Z,Z,Z] rfl rfl (any_of HT_.out (by kernel_rfl)) (fun _ _ _ h => h) (Or.inl ⟨by rfl, ?_⟩) ?_ ?_
                            rotate_left
                            ·intro w'
                             go_simp
                             with_reducible rfl
                            rotate_left
                            ·simp only [Act.put, List.setIfInBounds_toArray, List.set_cons_zero, List.set_cons_succ, i64_w, i32_w]
                             rfl
                            refine pure_ (i := 19) (N := some 163) (v := ?_) (a' := ?_) #[Y,Y,Y,Y,Y,Y,Y,Y,Y,Y,Y,Y,Y,Y,Y,Y,Y,Y,Y,Y,Z,Z,Z,Z,Z,Z,Z,Z,Z,Z,Z,Z,Z,Z,Z,Z,Z,Z,Z,Z,Z,Z,Z,Z,Z,Z,Z,Z,Z,Z,Z,Z,Z,Z,Z] rfl rfl (any_of HT_.out (by kernel_rfl)) (fun _ _ _ h => h) (Or.inl ⟨by rfl, ?_⟩) ?_ ?_
                            rotate_left
                            ·intro w'
                             go_simp
                             with_reducible rfl
                            rotate_left
                            ·simp only [Act.put, List.setIfInBounds_toArray, List.set_cons_zero, List.set_cons_succ, i64_w, i32_w]
                             rfl
                            refine pure_ (i := 20) (N := some 164) (v := ?_) (a' := ?_) #[Y,Y,Y,Y,Y,Y,Y,Y,Y,Y,Y,Y,Y,Y,Y,Y,Y,Y,Y,Y,Y,Z,Z,Z,Z,Z,Z,Z,Z,Z,Z,Z,Z,Z,Z,Z,Z,Z,Z,Z,Z,Z,Z,Z,Z,Z,Z,Z,Z,Z,Z,Z,Z,Z,Z] rfl rfl (any_of HT_.out (by kernel_rfl)) (fun _ _ _ h => h) (Or.inl ⟨by rfl, ?_⟩) ?_ ?_
                            rotate_left
                            ·intro w'
                             go_simp
                             with_reducible rfl
                            rotate_left
                            ·simp only [Act.put, List.setIfInBounds_toArray, List.set_cons_zero, List.set_cons_succ, i64_w, i32_w]
                             rfl
                            refine take_ (i := 21) (N := some 165) (v := ?_) (a' := ?_) #[Y,Y,Y,Y,Y,Y,Y,Y,Y,Y,Y,Y,Y,Y,Y,Y,Y,Y,Y,Y,Y,Y,Z,Z,Z,Z,Z,Z,Z,Z,Z,Z,Z,Z,Z,Z,Z,Z,Z,Z,Z,Z,Z,Z,Z,Z,Z,Z,Z,Z,Z,Z,Z,Z,Z] rfl rfl (take_ofW HT_.out HW_.out (by kernel_rfl)) (fun _ _ _ h => h) (Or.inl ⟨by rfl, ?_⟩) hHeld ?_ ?_
                            rotate_left
                            ·rintro w' ⟨s0, s1, s2, s3, s4, s5, s6, s7, s8, s9, s10, s11, s12, s13, s14⟩
                             go_simp
                             with_reducible rfl
                            rotate_left
                            ·simp only [Act.put, List.setIfInBounds_toArray, List.set_cons_zero, List.set_cons_succ, i64_w, i32_w]
                             rfl
                            refine take_ (i := 22) (N := some 166) (v := ?_) (a' := ?_) #[Y,Y,Y,Y,Y,Y,Y,Y,Y,Y,Y,Y,Y,Y,Y,Y,Y,Y,Y,Y,Y,Y,Y,Z,Z,Z,Z,Z,Z,Z,Z,Z,Z,Z,Z,Z,Z,Z,Z,Z,Z,Z,Z,Z,Z,Z,Z,Z,Z,Z,Z,Z,Z,Z,Z] rfl rfl (take_ofW HT_.out HW_.out (by kernel_rfl)) (fun _ _ _ h => h) (Or.inl ⟨by rfl, ?_⟩) hHeld ?_ ?_
                            rotate_left
                            ·rintro w' ⟨s0, s1, s2, s3, s4, s5, s6, s7, s8, s9, s10, s11, s12, s13, s14⟩
                             go_simp
                             with_reducible rfl
                            rotate_left
                            ·simp only [Act.put, List.setIfInBounds_toArray, List.set_cons_zero, List.set_cons_succ, i64_w, i32_w]
                             rfl
                            refine take_ (i := 24) (N := some 168) (v := ?_) (a' := ?_) #[Y,Y,Y,Y,Y,Y,Y,Y,Y,Y,Y,Y,Y,Y,Y,Y,Y,Y,Y,Y,Y,Y,Y,Z,Y,Z,Z,Z,Z,Z,Z,Z,Z,Z,Z,Z,Z,Z,Z,Z,Z,Z,Z,Z,Z,Z,Z,Z,Z,Z,Z,Z,Z,Z,Z] rfl rfl (take_ofW HT_.out HW_.out (by kernel_rfl)) (fun _ _ _ h => h) (Or.inl ⟨by rfl, ?_⟩) hHeld ?_ ?_
                            rotate_left
                            ·rintro w' ⟨s0, s1, s2, s3, s4, s5, s6, s7, s8, s9, s10, s11, s12, s13, s14⟩
                             go_simp
                             with_reducible rfl
                            rotate_left
                            ·simp only [Act.put, List.setIfInBounds_toArray, List.set_cons_zero, List.set_cons_succ, i64_w, i32_w]
                             rfl
                            refine take_ (i := 25) (N := some 169) (v := ?_) (a' := ?_) #[Y,Y,Y,Y,Y,Y,Y,Y,Y,Y,Y,Y,Y,Y,Y,Y,Y,Y,Y,Y,Y,Y,Y,Z,Y,Y,Z,Z,Z,Z,Z,Z,Z,Z,Z,Z,Z,Z,Z,Z,Z,Z,Z,Z,Z,Z,Z,Z,Z,Z,Z,Z,Z,Z,Z] rfl rfl (take_ofW HT_.out HW_.out (by kernel_rfl)) (fun _ _ _ h => h) (Or.inl ⟨by rfl, ?_⟩) hHeld ?_ ?_
                            rotate_left
                            ·rintro w' ⟨s0, s1, s2, s3, s4, s5, s6, s7, s8, s9, s10, s11, s12, s13, s14⟩
                             go_simp
                             with_reducible rfl
                            rotate_left
                            ·simp only [Act.put, List.setIfInBounds_toArray, List.set_cons_zero, List.set_cons_succ, i64_w, i32_w]
                             rfl
                            refine one_ (i := 23) (N := some 167) #[Y,Y,Y,Y,Y,Y,Y,Y,Y,Y,Y,Y,Y,Y,Y,Y,Y,Y,Y,Y,Y,Y,Y,Y,Y,Y,Z,Z,Z,Z,Z,Z,Z,Z,Z,Z,Z,Z,Z,Z,Z,Z,Z,Z,Z,Z,Z,Z,Z,Z,Z,Z,Z,Z,Z] rfl rfl (one_of HT_.out (by kernel_rfl)) (by decide) (fun K hK => ?_)
                            refine goes_ Try.func19 (by kernel_rfl) rfl #[.agg #[.int .i64 t281, .int .i64 t282, .string t283], .agg #[.int .i64 t284, .int .i64 t285, .string t286]] (by rfl) rfl rfl (by (try simp only [List.map_toArray, List.map_cons, List.map_nil]); first | done | rfl | (simp only [List.length_drop, List.length_take]; rfl)) ?_
                            with_reducible refine (impl_Apart.calls kj103 t281 t282 t283 t284 t285 t286 t315 _ A131.out).mono ?_
                            rintro e w142 ⟨rfl, hb⟩
                            refine ⟨_, rfl, ?_⟩
                            have n0_ := Aside0.mk (blk_below (g := gb287) (o := .cells #[.int .i64 t281, .int .i64 t282, .string t283] 25 (0, 0)) (by (with_reducible repeat (first | refine blk_drewN ?_ _ | refine blk_drew ?_ | refine blk_alloc ?_ _)); exact BK287.out) hb)
                            have n1_ := Aside0.mk (blk_below (g := gb288) (o := .cells #[.int .i64 t284, .int .i64 t285, .string t286] 25 (0, 0)) (by (with_reducible repeat (first | refine blk_drewN ?_ _ | refine blk_drew ?_ | refine blk_alloc ?_ _)); exact BK288.out) hb)
                            have n2_ := Aside0.mk (blk_below (g := gb294) (o := .cells #[.int .i64 (Int.tmod (rd t289 0) t284), .int .i64 (Int.tmod (rd t289 1) t285), .int .i64 (wrap64 (1 + (Int.tmod (rd t289 2) (wrap64 (t284 - (Int.tmod (rd t289 0) t284)))))), .int .i64 (wrap64 (1 + (Int.tmod (rd t289 3) (wrap64 (t285 - (Int.tmod (rd t289 1) t285))))))] 38 (0, 0)) (by (with_reducible repeat (first | refine blk_drewN ?_ _ | refine blk_drew ?_ | refine blk_alloc ?_ _)); exact BK294.out) hb)
                            have n3_ := Aside0.mk (blk_below (g := gb301) (o := .cells #[.int .i64 t297, .int .i64 t298, .string t299] 25 (0, 0)) (by (with_reducible repeat (first | refine blk_drewN ?_ _ | refine blk_drew ?_ | refine blk_alloc ?_ _)); exact BK301.out) hb)
                            have n4_ := Aside0.mk (blk_below (g := gb306) (o := .cells #[.int .i64 t302, .int .i64 t303, .string t304] 25 (0, 0)) (by (with_reducible repeat (first | refine blk_drewN ?_ _ | refine blk_drew ?_ | refine blk_alloc ?_ _)); exact BK306.out) hb)
                            have n5_ := Aside0.mk (blk_below (g := gb311) (o := .cells #[.int .i64 t307, .int .i64 t308, .string t309] 25 (0, 0)) (by (with_reducible repeat (first | refine blk_drewN ?_ _ | refine blk_drew ?_ | refine blk_alloc ?_ _)); exact BK311.out) hb)
                            have n6_ := Aside0.mk (below_step (by repeat (first | (with_reducible first | exact HB.out | apply below_alloc | apply pw_below_drewN | apply below_drew1 | refine below_set ?_ GE287.out | refine below_set ?_ GE288.out | refine below_set ?_ GE294.out | refine below_set ?_ GE301.out | refine below_set ?_ GE306.out | refine below_set ?_ GE311.out) | exact HB.out)) hb)
                            clear BK287
                            clear BK288
                            clear BK294
                            clear BK301
                            clear BK306
                            clear BK311
                            clear HB
                            have BK287 := n0_
                            have BK288 := n1_
                            have BK294 := n2_
                            have BK301 := n3_
                            have BK306 := n4_
                            have BK311 := n5_
                            have HB := n6_
                            clear n0_ n1_ n2_ n3_ n4_ n5_ n6_
                            (try clear hb)
                            (try clear hb2)
                            (try clear hk)
                            (try clear hi)
                            refine hK.out _ _ ⟨(blk_cell BK311.out 0).trans rfl, (blk_cell BK311.out 1).trans rfl, (blk_cell BK311.out 2).trans rfl, (blk_cell BK301.out 0).trans rfl, (blk_cell BK301.out 1).trans rfl, (blk_cell BK301.out 2).trans rfl, (blk_cell BK306.out 0).trans rfl, (blk_cell BK306.out 1).trans rfl, (blk_cell BK306.out 2).trans rfl, (blk_cell BK287.out 0).trans rfl, (blk_cell BK287.out 1).trans rfl, (blk_cell BK287.out 2).trans rfl, (blk_cell BK288.out 0).trans rfl, (blk_cell BK288.out 1).trans rfl, (blk_cell BK288.out 2).trans rfl⟩ (fun hHeld => ?_)
                            clear hK K
                            refine norm_ (a' := ?_) ?_ ?_
                            rotate_left
                            ·show Act.put _ (some 167) _ = _
                             simp only [Act.put, List.setIfInBounds_toArray, List.set_cons_zero, List.set_cons_succ, i64_w, i32_w]
                             rfl
                            refine one_ (i := 26) (N := some 170) #[Y,Y,Y,Y,Y,Y,Y,Y,Y,Y,Y,Y,Y,Y,Y,Y,Y,Y,Y,Y,Y,Y,Y,Y,Y,Y,Y,Z,Z,Z,Z,Z,Z,Z,Z,Z,Z,Z,Z,Z,Z,Z,Z,Z,Z,Z,Z,Z,Z,Z,Z,Z,Z,Z,Z] rfl rfl (one_of HT_.out (by kernel_rfl)) (by decide) (fun K hK => ?_)
                            refine goes_ Try.func19 (by kernel_rfl) rfl #[.agg #[.int .i64 t284, .int .i64 t285, .string t286], .agg #[.int .i64 t281, .int .i64 t282, .string t283]] (by rfl) rfl rfl (by (try simp only [List.map_toArray, List.map_cons, List.map_nil]); first | done | rfl | (simp only [List.length_drop, List.length_take]; rfl)) ?_
                            with_reducible refine (impl_Apart.calls kj103 t284 t285 t286 t281 t282 t283 t316 _ A132.out).mono ?_
                            rintro e w143 ⟨rfl, hb⟩
                            refine ⟨_, rfl, ?_⟩
                            have n0_ := Aside0.mk (blk_below (g := gb287) (o := .cells #[.int .i64 t281, .int .i64 t282, .string t283] 25 (0, 0)) (by (with_reducible repeat (first | refine blk_drewN ?_ _ | refine blk_drew ?_ | refine blk_alloc ?_ _)); exact BK287.out) hb)
                            have n1_ := Aside0.mk (blk_below (g := gb288) (o := .cells #[.int .i64 t284, .int .i64 t285, .string t286] 25 (0, 0)) (by (with_reducible repeat (first | refine blk_drewN ?_ _ | refine blk_drew ?_ | refine blk_alloc ?_ _)); exact BK288.out) hb)
                            have n2_ := Aside0.mk (blk_below (g := gb294) (o := .cells #[.int .i64 (Int.tmod (rd t289 0) t284), .int .i64 (Int.tmod (rd t289 1) t285), .int .i64 (wrap64 (1 + (Int.tmod (rd t289 2) (wrap64 (t284 - (Int.tmod (rd t289 0) t284)))))), .int .i64 (wrap64 (1 + (Int.tmod (rd t289 3) (wrap64 (t285 - (Int.tmod (rd t289 1) t285))))))] 38 (0, 0)) (by (with_reducible repeat (first | refine blk_drewN ?_ _ | refine blk_drew ?_ | refine blk_alloc ?_ _)); exact BK294.out) hb)
                            have n3_ := Aside0.mk (blk_below (g := gb301) (o := .cells #[.int .i64 t297, .int .i64 t298, .string t299] 25 (0, 0)) (by (with_reducible repeat (first | refine blk_drewN ?_ _ | refine blk_drew ?_ | refine blk_alloc ?_ _)); exact BK301.out) hb)
                            have n4_ := Aside0.mk (blk_below (g := gb306) (o := .cells #[.int .i64 t302, .int .i64 t303, .string t304] 25 (0, 0)) (by (with_reducible repeat (first | refine blk_drewN ?_ _ | refine blk_drew ?_ | refine blk_alloc ?_ _)); exact BK306.out) hb)
                            have n5_ := Aside0.mk (blk_below (g := gb311) (o := .cells #[.int .i64 t307, .int .i64 t308, .string t309] 25 (0, 0)) (by (with_reducible repeat (first | refine blk_drewN ?_ _ | refine blk_drew ?_ | refine blk_alloc ?_ _)); exact BK311.out) hb)
                            have n6_ := Aside0.mk (below_step (by repeat (first | (with_reducible first | exact HB.out | apply below_alloc | apply pw_below_drewN | apply below_drew1 | refine below_set ?_ GE287.out | refine below_set ?_ GE288.out | refine below_set ?_ GE294.out | refine below_set ?_ GE301.out | refine below_set ?_ GE306.out | refine below_set ?_ GE311.out) | exact HB.out)) hb)
                            clear BK287
                            clear BK288
                            clear BK294
                            clear BK301
                            clear BK306
                            clear BK311
                            clear HB
                            have BK287 := n0_
                            have BK288 := n1_
                            have BK294 := n2_
                            have BK301 := n3_
                            have BK306 := n4_
                            have BK311 := n5_
                            have HB := n6_
                            clear n0_ n1_ n2_ n3_ n4_ n5_ n6_
                            (try clear hb)
                            (try clear hb2)
                            (try clear hk)
                            (try clear hi)
                            refine hK.out _ _ ⟨(blk_cell BK311.out 0).trans rfl, (blk_cell BK311.out 1).trans rfl, (blk_cell BK311.out 2).trans rfl, (blk_cell BK301.out 0).trans rfl, (blk_cell BK301.out 1).trans rfl, (blk_cell BK301.out 2).trans rfl, (blk_cell BK306.out 0).trans rfl, (blk_cell BK306.out 1).trans rfl, (blk_cell BK306.out 2).trans rfl, (blk_cell BK287.out 0).trans rfl, (blk_cell BK287.out 1).trans rfl, (blk_cell BK287.out 2).trans rfl, (blk_cell BK288.out 0).trans rfl, (blk_cell BK288.out 1).trans rfl, (blk_cell BK288.out 2).trans rfl⟩ (fun hHeld => ?_)
                            clear hK K
                            refine norm_ (a' := ?_) ?_ ?_
                            rotate_left
                            ·show Act.put _ (some 170) _ = _
                             simp only [Act.put, List.setIfInBounds_toArray, List.set_cons_zero, List.set_cons_succ, i64_w, i32_w]
                             rfl
                            refine pure_ (i := 27) (N := some 171) (v := ?_) (a' := ?_) #[Y,Y,Y,Y,Y,Y,Y,Y,Y,Y,Y,Y,Y,Y,Y,Y,Y,Y,Y,Y,Y,Y,Y,Y,Y,Y,Y,Y,Z,Z,Z,Z,Z,Z,Z,Z,Z,Z,Z,Z,Z,Z,Z,Z,Z,Z,Z,Z,Z,Z,Z,Z,Z,Z,Z] rfl rfl (any_of HT_.out (by kernel_rfl)) (fun _ _ _ h => h) (Or.inl ⟨by rfl, ?_⟩) ?_ ?_
                            rotate_left
                            ·intro w'
                             go_simp
                             with_reducible rfl
                            rotate_left
                            ·simp only [Act.put, List.setIfInBounds_toArray, List.set_cons_zero, List.set_cons_succ, i64_w, i32_w]
                             rfl
                            refine pure_ (i := 28) (N := some 172) (v := ?_) (a' := ?_) #[Y,Y,Y,Y,Y,Y,Y,Y,Y,Y,Y,Y,Y,Y,Y,Y,Y,Y,Y,Y,Y,Y,Y,Y,Y,Y,Y,Y,Y,Z,Z,Z,Z,Z,Z,Z,Z,Z,Z,Z,Z,Z,Z,Z,Z,Z,Z,Z,Z,Z,Z,Z,Z,Z,Z] rfl rfl (any_of HT_.out (by kernel_rfl)) (fun _ _ _ h => h) (Or.inl ⟨by rfl, ?_⟩) ?_ ?_
                            rotate_left
                            ·intro w'
                             go_simp
                             with_reducible rfl
                            rotate_left
                            ·simp only [Act.put, List.setIfInBounds_toArray, List.set_cons_zero, List.set_cons_succ, i64_w, i32_w]
                             rfl
                            refine pure_ (i := 29) (N := some 173) (v := ?_) (a' := ?_) #[Y,Y,Y,Y,Y,Y,Y,Y,Y,Y,Y,Y,Y,Y,Y,Y,Y,Y,Y,Y,Y,Y,Y,Y,Y,Y,Y,Y,Y,Y,Z,Z,Z,Z,Z,Z,Z,Z,Z,Z,Z,Z,Z,Z,Z,Z,Z,Z,Z,Z,Z,Z,Z,Z,Z] rfl rfl (any_of HT_.out (by kernel_rfl)) (fun _ _ _ h => h) (Or.inl ⟨by rfl, ?_⟩) ?_ ?_
                            rotate_left
                            ·intro w'
                             go_simp
                             with_reducible rfl
                            rotate_left
                            ·simp only [Act.put, List.setIfInBounds_toArray, List.set_cons_zero, List.set_cons_succ, i64_w, i32_w]
                             rfl
                            refine take_ (i := 30) (N := some 174) (v := ?_) (a' := ?_) #[Y,Y,Y,Y,Y,Y,Y,Y,Y,Y,Y,Y,Y,Y,Y,Y,Y,Y,Y,Y,Y,Y,Y,Y,Y,Y,Y,Y,Y,Y,Y,Z,Z,Z,Z,Z,Z,Z,Z,Z,Z,Z,Z,Z,Z,Z,Z,Z,Z,Z,Z,Z,Z,Z,Z] rfl rfl (take_ofW HT_.out HW_.out (by kernel_rfl)) (fun _ _ _ h => h) (Or.inl ⟨by rfl, ?_⟩) hHeld ?_ ?_
                            rotate_left
                            ·rintro w' ⟨s0, s1, s2, s3, s4, s5, s6, s7, s8, s9, s10, s11, s12, s13, s14⟩
                             go_simp
                             with_reducible rfl
                            rotate_left
                            ·simp only [Act.put, List.setIfInBounds_toArray, List.set_cons_zero, List.set_cons_succ, i64_w, i32_w]
                             rfl
                            refine take_ (i := 31) (N := some 175) (v := ?_) (a' := ?_) #[Y,Y,Y,Y,Y,Y,Y,Y,Y,Y,Y,Y,Y,Y,Y,Y,Y,Y,Y,Y,Y,Y,Y,Y,Y,Y,Y,Y,Y,Y,Y,Y,Z,Z,Z,Z,Z,Z,Z,Z,Z,Z,Z,Z,Z,Z,Z,Z,Z,Z,Z,Z,Z,Z,Z] rfl rfl (take_ofW HT_.out HW_.out (by kernel_rfl)) (fun _ _ _ h => h) (Or.inl ⟨by rfl, ?_⟩) hHeld ?_ ?_
                            rotate_left
                            ·rintro w' ⟨s0, s1, s2, s3, s4, s5, s6, s7, s8, s9, s10, s11, s12, s13, s14⟩
                             go_simp
                             with_reducible rfl
                            rotate_left
                            ·simp only [Act.put, List.setIfInBounds_toArray, List.set_cons_zero, List.set_cons_succ, i64_w, i32_w]
                             rfl
                            refine take_ (i := 34) (N := some 178) (v := ?_) (a' := ?_) #[Y,Y,Y,Y,Y,Y,Y,Y,Y,Y,Y,Y,Y,Y,Y,Y,Y,Y,Y,Y,Y,Y,Y,Y,Y,Y,Y,Y,Y,Y,Y,Y,Z,Z,Y,Z,Z,Z,Z,Z,Z,Z,Z,Z,Z,Z,Z,Z,Z,Z,Z,Z,Z,Z,Z] rfl rfl (take_ofW HT_.out HW_.out (by kernel_rfl)) (fun _ _ _ h => h) (Or.inl ⟨by rfl, ?_⟩) hHeld ?_ ?_
                            rotate_left
                            ·rintro w' ⟨s0, s1, s2, s3, s4, s5, s6, s7, s8, s9, s10, s11, s12, s13, s14⟩
                             go_simp
                             with_reducible rfl
                            rotate_left
                            ·simp only [Act.put, List.setIfInBounds_toArray, List.set_cons_zero, List.set_cons_succ, i64_w, i32_w]
                             rfl
                            refine take_ (i := 35) (N := some 179) (v := ?_) (a' := ?_) #[Y,Y,Y,Y,Y,Y,Y,Y,Y,Y,Y,Y,Y,Y,Y,Y,Y,Y,Y,Y,Y,Y,Y,Y,Y,Y,Y,Y,Y,Y,Y,Y,Z,Z,Y,Y,Z,Z,Z,Z,Z,Z,Z,Z,Z,Z,Z,Z,Z,Z,Z,Z,Z,Z,Z] rfl rfl (take_ofW HT_.out HW_.out (by kernel_rfl)) (fun _ _ _ h => h) (Or.inl ⟨by rfl, ?_⟩) hHeld ?_ ?_
                            rotate_left
                            ·rintro w' ⟨s0, s1, s2, s3, s4, s5, s6, s7, s8, s9, s10, s11, s12, s13, s14⟩
                             go_simp
                             with_reducible rfl
                            rotate_left
                            ·simp only [Act.put, List.setIfInBounds_toArray, List.set_cons_zero, List.set_cons_succ, i64_w, i32_w]
                             rfl
                            refine pure_ (i := 36) (N := some 180) (v := ?_) (a' := ?_) #[Y,Y,Y,Y,Y,Y,Y,Y,Y,Y,Y,Y,Y,Y,Y,Y,Y,Y,Y,Y,Y,Y,Y,Y,Y,Y,Y,Y,Y,Y,Y,Y,Z,Z,Y,Y,Y,Z,Z,Z,Z,Z,Z,Z,Z,Z,Z,Z,Z,Z,Z,Z,Z,Z,Z] rfl rfl (any_of HT_.out (by kernel_rfl)) (fun _ _ _ h => h) (Or.inl ⟨by rfl, ?_⟩) ?_ ?_
                            rotate_left
                            ·intro w'
                             go_simp
                             with_reducible rfl
                            rotate_left
                            ·simp only [Act.put, List.setIfInBounds_toArray, List.set_cons_zero, List.set_cons_succ, i64_w, i32_w]
                             rfl
                            refine one_ (i := 32) (N := some 176) #[Y,Y,Y,Y,Y,Y,Y,Y,Y,Y,Y,Y,Y,Y,Y,Y,Y,Y,Y,Y,Y,Y,Y,Y,Y,Y,Y,Y,Y,Y,Y,Y,Y,Z,Y,Y,Y,Z,Z,Z,Z,Z,Z,Z,Z,Z,Z,Z,Z,Z,Z,Z,Z,Z,Z] rfl rfl (one_of HT_.out (by kernel_rfl)) (by decide) (fun K hK => ?_)
                            refine goes_ Try.func19 (by kernel_rfl) rfl #[.agg #[.int .i64 t281, .int .i64 t282, .string t283], .agg #[.int .i64 t284, .int .i64 t285, .string t286]] (by rfl) rfl rfl (by (try simp only [List.map_toArray, List.map_cons, List.map_nil]); first | done | rfl | (simp only [List.length_drop, List.length_take]; rfl)) ?_
                            with_reducible refine (impl_Apart.calls kj103 t281 t282 t283 t284 t285 t286 t317 _ A134.out).mono ?_
                            rintro e w144 ⟨rfl, hb⟩
                            refine ⟨_, rfl, ?_⟩
                            have n0_ := Aside0.mk (blk_below (g := gb287) (o := .cells #[.int .i64 t281, .int .i64 t282, .string t283] 25 (0, 0)) (by (with_reducible repeat (first | refine blk_drewN ?_ _ | refine blk_drew ?_ | refine blk_alloc ?_ _)); exact BK287.out) hb)
                            have n1_ := Aside0.mk (blk_below (g := gb288) (o := .cells #[.int .i64 t284, .int .i64 t285, .string t286] 25 (0, 0)) (by (with_reducible repeat (first | refine blk_drewN ?_ _ | refine blk_drew ?_ | refine blk_alloc ?_ _)); exact BK288.out) hb)
                            have n2_ := Aside0.mk (blk_below (g := gb294) (o := .cells #[.int .i64 (Int.tmod (rd t289 0) t284), .int .i64 (Int.tmod (rd t289 1) t285), .int .i64 (wrap64 (1 + (Int.tmod (rd t289 2) (wrap64 (t284 - (Int.tmod (rd t289 0) t284)))))), .int .i64 (wrap64 (1 + (Int.tmod (rd t289 3) (wrap64 (t285 - (Int.tmod (rd t289 1) t285))))))] 38 (0, 0)) (by (with_reducible repeat (first | refine blk_drewN ?_ _ | refine blk_drew ?_ | refine blk_alloc ?_ _)); exact BK294.out) hb)
                            have n3_ := Aside0.mk (blk_below (g := gb301) (o := .cells #[.int .i64 t297, .int .i64 t298, .string t299] 25 (0, 0)) (by (with_reducible repeat (first | refine blk_drewN ?_ _ | refine blk_drew ?_ | refine blk_alloc ?_ _)); exact BK301.out) hb)
                            have n4_ := Aside0.mk (blk_below (g := gb306) (o := .cells #[.int .i64 t302, .int .i64 t303, .string t304] 25 (0, 0)) (by (with_reducible repeat (first | refine blk_drewN ?_ _ | refine blk_drew ?_ | refine blk_alloc ?_ _)); exact BK306.out) hb)
                            have n5_ := Aside0.mk (blk_below (g := gb311) (o := .cells #[.int .i64 t307, .int .i64 t308, .string t309] 25 (0, 0)) (by (with_reducible repeat (first | refine blk_drewN ?_ _ | refine blk_drew ?_ | refine blk_alloc ?_ _)); exact BK311.out) hb)
                            have n6_ := Aside0.mk (below_step (by repeat (first | (with_reducible first | exact HB.out | apply below_alloc | apply pw_below_drewN | apply below_drew1 | refine below_set ?_ GE287.out | refine below_set ?_ GE288.out | refine below_set ?_ GE294.out | refine below_set ?_ GE301.out | refine below_set ?_ GE306.out | refine below_set ?_ GE311.out) | exact HB.out)) hb)
                            clear BK287
                            clear BK288
                            clear BK294
                            clear BK301
                            clear BK306
                            clear BK311
                            clear HB
                            have BK287 := n0_
                            have BK288 := n1_
                            have BK294 := n2_
                            have BK301 := n3_
                            have BK306 := n4_
                            have BK311 := n5_
                            have HB := n6_
                            clear n0_ n1_ n2_ n3_ n4_ n5_ n6_
                            (try clear hb)
                            (try clear hb2)
                            (try clear hk)
                            (try clear hi)
                            refine hK.out _ _ ⟨(blk_cell BK311.out 0).trans rfl, (blk_cell BK311.out 1).trans rfl, (blk_cell BK311.out 2).trans rfl, (blk_cell BK301.out 0).trans rfl, (blk_cell BK301.out 1).trans rfl, (blk_cell BK301.out 2).trans rfl, (blk_cell BK306.out 0).trans rfl, (blk_cell BK306.out 1).trans rfl, (blk_cell BK306.out 2).trans rfl, (blk_cell BK287.out 0).trans rfl, (blk_cell BK287.out 1).trans rfl, (blk_cell BK287.out 2).trans rfl, (blk_cell BK288.out 0).trans rfl, (blk_cell BK288.out 1).trans rfl, (blk_cell BK288.out 2).trans rfl⟩ (fun hHeld => ?_)
                            clear hK K
                            refine norm_ (a' := ?_) ?_ ?_
                            rotate_left
                            ·show Act.put _ (some 176) _ = _
                             simp only [Act.put, List.setIfInBounds_toArray, List.set_cons_zero, List.set_cons_succ, i64_w, i32_w]
                             rfl
                            refine pure_ (i := 33) (N := some 177) (v := ?_) (a' := ?_) #[Y,Y,Y,Y,Y,Y,Y,Y,Y,Y,Y,Y,Y,Y,Y,Y,Y,Y,Y,Y,Y,Y,Y,Y,Y,Y,Y,Y,Y,Y,Y,Y,Y,Y,Y,Y,Y,Z,Z,Z,Z,Z,Z,Z,Z,Z,Z,Z,Z,Z,Z,Z,Z,Z,Z] rfl rfl (any_of HT_.out (by kernel_rfl)) (fun _ _ _ h => h) (Or.inl ⟨by rfl, ?_⟩) ?_ ?_
                            rotate_left
                            ·intro w'
                             go_simp
                             with_reducible rfl
                            rotate_left
                            ·simp only [Act.put, List.setIfInBounds_toArray, List.set_cons_zero, List.set_cons_succ, i64_w, i32_w]
                             rfl
                            refine pure_ (i := 37) (N := some 181) (v := ?_) (a' := ?_) #[Y,Y,Y,Y,Y,Y,Y,Y,Y,Y,Y,Y,Y,Y,Y,Y,Y,Y,Y,Y,Y,Y,Y,Y,Y,Y,Y,Y,Y,Y,Y,Y,Y,Y,Y,Y,Y,Y,Z,Z,Z,Z,Z,Z,Z,Z,Z,Z,Z,Z,Z,Z,Z,Z,Z] rfl rfl (any_of HT_.out (by kernel_rfl)) (fun _ _ _ h => h) (Or.inl ⟨by rfl, ?_⟩) ?_ ?_
                            rotate_left
                            ·intro w'
                             go_simp
                             with_reducible rfl
                            rotate_left
                            ·simp only [Act.put, List.setIfInBounds_toArray, List.set_cons_zero, List.set_cons_succ, i64_w, i32_w]
                             rfl
                            refine pure_ (i := 38) (N := some 182) (v := ?_) (a' := ?_) #[Y,Y,Y,Y,Y,Y,Y,Y,Y,Y,Y,Y,Y,Y,Y,Y,Y,Y,Y,Y,Y,Y,Y,Y,Y,Y,Y,Y,Y,Y,Y,Y,Y,Y,Y,Y,Y,Y,Y,Z,Z,Z,Z,Z,Z,Z,Z,Z,Z,Z,Z,Z,Z,Z,Z] rfl rfl (any_of HT_.out (by kernel_rfl)) (fun _ _ _ h => h) (Or.inl ⟨by rfl, ?_⟩) ?_ ?_
                            rotate_left
                            ·intro w'
                             go_simp
                             with_reducible rfl
                            rotate_left
                            ·simp only [Act.put, List.setIfInBounds_toArray, List.set_cons_zero, List.set_cons_succ, i64_w, i32_w]
                             rfl
                            refine pure_ (i := 39) (N := some 183) (v := ?_) (a' := ?_) #[Y,Y,Y,Y,Y,Y,Y,Y,Y,Y,Y,Y,Y,Y,Y,Y,Y,Y,Y,Y,Y,Y,Y,Y,Y,Y,Y,Y,Y,Y,Y,Y,Y,Y,Y,Y,Y,Y,Y,Y,Z,Z,Z,Z,Z,Z,Z,Z,Z,Z,Z,Z,Z,Z,Z] rfl rfl (any_of HT_.out (by kernel_rfl)) (fun _ _ _ h => h) (Or.inl ⟨by rfl, ?_⟩) ?_ ?_
                            rotate_left
                            ·intro w'
                             go_simp
                             with_reducible rfl
                            rotate_left
                            ·simp only [Act.put, List.setIfInBounds_toArray, List.set_cons_zero, List.set_cons_succ, i64_w, i32_w]
                             rfl
                            refine take_ (i := 40) (N := some 184) (v := ?_) (a' := ?_) #[Y,Y,Y,Y,Y,Y,Y,Y,Y,Y,Y,Y,Y,Y,Y,Y,Y,Y,Y,Y,Y,Y,Y,Y,Y,Y,Y,Y,Y,Y,Y,Y,Y,Y,Y,Y,Y,Y,Y,Y,Y,Z,Z,Z,Z,Z,Z,Z,Z,Z,Z,Z,Z,Z,Z] rfl rfl (take_ofW HT_.out HW_.out (by kernel_rfl)) (fun _ _ _ h => h) (Or.inl ⟨by rfl, ?_⟩) hHeld ?_ ?_
                            rotate_left
                            ·rintro w' ⟨s0, s1, s2, s3, s4, s5, s6, s7, s8, s9, s10, s11, s12, s13, s14⟩
                             go_simp
                             with_reducible rfl
                            rotate_left
                            ·simp only [Act.put, List.setIfInBounds_toArray, List.set_cons_zero, List.set_cons_succ, i64_w, i32_w]
                             rfl
                            refine take_ (i := 41) (N := some 185) (v := ?_) (a' := ?_) #[Y,Y,Y,Y,Y,Y,Y,Y,Y,Y,Y,Y,Y,Y,Y,Y,Y,Y,Y,Y,Y,Y,Y,Y,Y,Y,Y,Y,Y,Y,Y,Y,Y,Y,Y,Y,Y,Y,Y,Y,Y,Y,Z,Z,Z,Z,Z,Z,Z,Z,Z,Z,Z,Z,Z] rfl rfl (take_ofW HT_.out HW_.out (by kernel_rfl)) (fun _ _ _ h => h) (Or.inl ⟨by rfl, ?_⟩) hHeld ?_ ?_
                            rotate_left
                            ·rintro w' ⟨s0, s1, s2, s3, s4, s5, s6, s7, s8, s9, s10, s11, s12, s13, s14⟩
                             go_simp
                             with_reducible rfl
                            rotate_left
                            ·simp only [Act.put, List.setIfInBounds_toArray, List.set_cons_zero, List.set_cons_succ, i64_w, i32_w]
                             rfl
                            refine take_ (i := 43) (N := some 187) (v := ?_) (a' := ?_) #[Y,Y,Y,Y,Y,Y,Y,Y,Y,Y,Y,Y,Y,Y,Y,Y,Y,Y,Y,Y,Y,Y,Y,Y,Y,Y,Y,Y,Y,Y,Y,Y,Y,Y,Y,Y,Y,Y,Y,Y,Y,Y,Z,Y,Z,Z,Z,Z,Z,Z,Z,Z,Z,Z,Z] rfl rfl (take_ofW HT_.out HW_.out (by kernel_rfl)) (fun _ _ _ h => h) (Or.inl ⟨by rfl, ?_⟩) hHeld ?_ ?_
                            rotate_left
                            ·rintro w' ⟨s0, s1, s2, s3, s4, s5, s6, s7, s8, s9, s10, s11, s12, s13, s14⟩
                             go_simp
                             with_reducible rfl
                            rotate_left
                            ·simp only [Act.put, List.setIfInBounds_toArray, List.set_cons_zero, List.set_cons_succ, i64_w, i32_w]
                             rfl
                            refine take_ (i := 44) (N := some 188) (v := ?_) (a' := ?_) #[Y,Y,Y,Y,Y,Y,Y,Y,Y,Y,Y,Y,Y,Y,Y,Y,Y,Y,Y,Y,Y,Y,Y,Y,Y,Y,Y,Y,Y,Y,Y,Y,Y,Y,Y,Y,Y,Y,Y,Y,Y,Y,Z,Y,Y,Z,Z,Z,Z,Z,Z,Z,Z,Z,Z] rfl rfl (take_ofW HT_.out HW_.out (by kernel_rfl)) (fun _ _ _ h => h) (Or.inl ⟨by rfl, ?_⟩) hHeld ?_ ?_
                            rotate_left
                            ·rintro w' ⟨s0, s1, s2, s3, s4, s5, s6, s7, s8, s9, s10, s11, s12, s13, s14⟩
                             go_simp
                             with_reducible rfl
                            rotate_left
                            ·simp only [Act.put, List.setIfInBounds_toArray, List.set_cons_zero, List.set_cons_succ, i64_w, i32_w]
                             rfl
                            refine one_ (i := 42) (N := some 186) #[Y,Y,Y,Y,Y,Y,Y,Y,Y,Y,Y,Y,Y,Y,Y,Y,Y,Y,Y,Y,Y,Y,Y,Y,Y,Y,Y,Y,Y,Y,Y,Y,Y,Y,Y,Y,Y,Y,Y,Y,Y,Y,Y,Y,Y,Z,Z,Z,Z,Z,Z,Z,Z,Z,Z] rfl rfl (one_of HT_.out (by kernel_rfl)) (by decide) (fun K hK => ?_)
                            refine goes_ Try.func19 (by kernel_rfl) rfl #[.agg #[.int .i64 t281, .int .i64 t282, .string t283], .agg #[.int .i64 t284, .int .i64 t285, .string t286]] (by rfl) rfl rfl (by (try simp only [List.map_toArray, List.map_cons, List.map_nil]); first | done | rfl | (simp only [List.length_drop, List.length_take]; rfl)) ?_
                            with_reducible refine (impl_Apart.calls kj103 t281 t282 t283 t284 t285 t286 t318 _ A136.out).mono ?_
                            rintro e w145 ⟨rfl, hb⟩
                            refine ⟨_, rfl, ?_⟩
                            have n0_ := Aside0.mk (blk_below (g := gb287) (o := .cells #[.int .i64 t281, .int .i64 t282, .string t283] 25 (0, 0)) (by (with_reducible repeat (first | refine blk_drewN ?_ _ | refine blk_drew ?_ | refine blk_alloc ?_ _)); exact BK287.out) hb)
                            have n1_ := Aside0.mk (blk_below (g := gb288) (o := .cells #[.int .i64 t284, .int .i64 t285, .string t286] 25 (0, 0)) (by (with_reducible repeat (first | refine blk_drewN ?_ _ | refine blk_drew ?_ | refine blk_alloc ?_ _)); exact BK288.out) hb)
                            have n2_ := Aside0.mk (blk_below (g := gb294) (o := .cells #[.int .i64 (Int.tmod (rd t289 0) t284), .int .i64 (Int.tmod (rd t289 1) t285), .int .i64 (wrap64 (1 + (Int.tmod (rd t289 2) (wrap64 (t284 - (Int.tmod (rd t289 0) t284)))))), .int .i64 (wrap64 (1 + (Int.tmod (rd t289 3) (wrap64 (t285 - (Int.tmod (rd t289 1) t285))))))] 38 (0, 0)) (by (with_reducible repeat (first | refine blk_drewN ?_ _ | refine blk_drew ?_ | refine blk_alloc ?_ _)); exact BK294.out) hb)
                            have n3_ := Aside0.mk (blk_below (g := gb301) (o := .cells #[.int .i64 t297, .int .i64 t298, .string t299] 25 (0, 0)) (by (with_reducible repeat (first | refine blk_drewN ?_ _ | refine blk_drew ?_ | refine blk_alloc ?_ _)); exact BK301.out) hb)
                            have n4_ := Aside0.mk (blk_below (g := gb306) (o := .cells #[.int .i64 t302, .int .i64 t303, .string t304] 25 (0, 0)) (by (with_reducible repeat (first | refine blk_drewN ?_ _ | refine blk_drew ?_ | refine blk_alloc ?_ _)); exact BK306.out) hb)
                            have n5_ := Aside0.mk (blk_below (g := gb311) (o := .cells #[.int .i64 t307, .int .i64 t308, .string t309] 25 (0, 0)) (by (with_reducible repeat (first | refine blk_drewN ?_ _ | refine blk_drew ?_ | refine blk_alloc ?_ _)); exact BK311.out) hb)
                            have n6_ := Aside0.mk (below_step (by repeat (first | (with_reducible first | exact HB.out | apply below_alloc | apply pw_below_drewN | apply below_drew1 | refine below_set ?_ GE287.out | refine below_set ?_ GE288.out | refine below_set ?_ GE294.out | refine below_set ?_ GE301.out | refine below_set ?_ GE306.out | refine below_set ?_ GE311.out) | exact HB.out)) hb)
                            clear BK287
                            clear BK288
                            clear BK294
                            clear BK301
                            clear BK306
                            clear BK311
                            clear HB
                            have BK287 := n0_
                            have BK288 := n1_
                            have BK294 := n2_
                            have BK301 := n3_
                            have BK306 := n4_
                            have BK311 := n5_
                            have HB := n6_
                            clear n0_ n1_ n2_ n3_ n4_ n5_ n6_
                            (try clear hb)
                            (try clear hb2)
                            (try clear hk)
                            (try clear hi)
                            refine hK.out _ _ ⟨(blk_cell BK311.out 0).trans rfl, (blk_cell BK311.out 1).trans rfl, (blk_cell BK311.out 2).trans rfl, (blk_cell BK301.out 0).trans rfl, (blk_cell BK301.out 1).trans rfl, (blk_cell BK301.out 2).trans rfl, (blk_cell BK306.out 0).trans rfl, (blk_cell BK306.out 1).trans rfl, (blk_cell BK306.out 2).trans rfl, (blk_cell BK287.out 0).trans rfl, (blk_cell BK287.out 1).trans rfl, (blk_cell BK287.out 2).trans rfl, (blk_cell BK288.out 0).trans rfl, (blk_cell BK288.out 1).trans rfl, (blk_cell BK288.out 2).trans rfl⟩ (fun hHeld => ?_)
                            clear hK K
                            refine norm_ (a' := ?_) ?_ ?_
                            rotate_left
                            ·show Act.put _ (some 186) _ = _
                             simp only [Act.put, List.setIfInBounds_toArray, List.set_cons_zero, List.set_cons_succ, i64_w, i32_w]
                             rfl
                            refine one_ (i := 45) (N := some 189) #[Y,Y,Y,Y,Y,Y,Y,Y,Y,Y,Y,Y,Y,Y,Y,Y,Y,Y,Y,Y,Y,Y,Y,Y,Y,Y,Y,Y,Y,Y,Y,Y,Y,Y,Y,Y,Y,Y,Y,Y,Y,Y,Y,Y,Y,Y,Z,Z,Z,Z,Z,Z,Z,Z,Z] rfl rfl (one_of HT_.out (by kernel_rfl)) (by decide) (fun K hK => ?_)
                            refine goes_ Try.func19 (by kernel_rfl) rfl #[.agg #[.int .i64 t302, .int .i64 t303, .string t304], .agg #[.int .i64 t284, .int .i64 t285, .string t286]] (by rfl) rfl rfl (by (try simp only [List.map_toArray, List.map_cons, List.map_nil]); first | done | rfl | (simp only [List.length_drop, List.length_take]; rfl)) ?_
                            with_reducible refine (impl_Apart.calls kj103 t302 t303 t304 t284 t285 t286 t319 _ A137.out).mono ?_
                            rintro e w146 ⟨rfl, hb⟩
                            refine ⟨_, rfl, ?_⟩
                            have n0_ := Aside0.mk (blk_below (g := gb287) (o := .cells #[.int .i64 t281, .int .i64 t282, .string t283] 25 (0, 0)) (by (with_reducible repeat (first | refine blk_drewN ?_ _ | refine blk_drew ?_ | refine blk_alloc ?_ _)); exact BK287.out) hb)
                            have n1_ := Aside0.mk (blk_below (g := gb288) (o := .cells #[.int .i64 t284, .int .i64 t285, .string t286] 25 (0, 0)) (by (with_reducible repeat (first | refine blk_drewN ?_ _ | refine blk_drew ?_ | refine blk_alloc ?_ _)); exact BK288.out) hb)
                            have n2_ := Aside0.mk (blk_below (g := gb294) (o := .cells #[.int .i64 (Int.tmod (rd t289 0) t284), .int .i64 (Int.tmod (rd t289 1) t285), .int .i64 (wrap64 (1 + (Int.tmod (rd t289 2) (wrap64 (t284 - (Int.tmod (rd t289 0) t284)))))), .int .i64 (wrap64 (1 + (Int.tmod (rd t289 3) (wrap64 (t285 - (Int.tmod (rd t289 1) t285))))))] 38 (0, 0)) (by (with_reducible repeat (first | refine blk_drewN ?_ _ | refine blk_drew ?_ | refine blk_alloc ?_ _)); exact BK294.out) hb)
                            have n3_ := Aside0.mk (blk_below (g := gb301) (o := .cells #[.int .i64 t297, .int .i64 t298, .string t299] 25 (0, 0)) (by (with_reducible repeat (first | refine blk_drewN ?_ _ | refine blk_drew ?_ | refine blk_alloc ?_ _)); exact BK301.out) hb)
                            have n4_ := Aside0.mk (blk_below (g := gb306) (o := .cells #[.int .i64 t302, .int .i64 t303, .string t304] 25 (0, 0)) (by (with_reducible repeat (first | refine blk_drewN ?_ _ | refine blk_drew ?_ | refine blk_alloc ?_ _)); exact BK306.out) hb)
                            have n5_ := Aside0.mk (blk_below (g := gb311) (o := .cells #[.int .i64 t307, .int .i64 t308, .string t309] 25 (0, 0)) (by (with_reducible repeat (first | refine blk_drewN ?_ _ | refine blk_drew ?_ | refine blk_alloc ?_ _)); exact BK311.out) hb)
                            have n6_ := Aside0.mk (below_step (by repeat (first | (with_reducible first | exact HB.out | apply below_alloc | apply pw_below_drewN | apply below_drew1 | refine below_set ?_ GE287.out | refine below_set ?_ GE288.out | refine below_set ?_ GE294.out | refine below_set ?_ GE301.out | refine below_set ?_ GE306.out | refine below_set ?_ GE311.out) | exact HB.out)) hb)
                            clear BK287
                            clear BK288
                            clear BK294
                            clear BK301
                            clear BK306
                            clear BK311
                            clear HB
                            have BK287 := n0_
                            have BK288 := n1_
                            have BK294 := n2_
                            have BK301 := n3_
                            have BK306 := n4_
                            have BK311 := n5_
                            have HB := n6_
                            clear n0_ n1_ n2_ n3_ n4_ n5_ n6_
                            (try clear hb)
                            (try clear hb2)
                            (try clear hk)
                            (try clear hi)
                            refine hK.out _ _ ⟨(blk_cell BK311.out 0).trans rfl, (blk_cell BK311.out 1).trans rfl, (blk_cell BK311.out 2).trans rfl, (blk_cell BK301.out 0).trans rfl, (blk_cell BK301.out 1).trans rfl, (blk_cell BK301.out 2).trans rfl, (blk_cell BK306.out 0).trans rfl, (blk_cell BK306.out 1).trans rfl, (blk_cell BK306.out 2).trans rfl, (blk_cell BK287.out 0).trans rfl, (blk_cell BK287.out 1).trans rfl, (blk_cell BK287.out 2).trans rfl, (blk_cell BK288.out 0).trans rfl, (blk_cell BK288.out 1).trans rfl, (blk_cell BK288.out 2).trans rfl⟩ (fun hHeld => ?_)
                            clear hK K
                            refine norm_ (a' := ?_) ?_ ?_
                            rotate_left
                            ·show Act.put _ (some 189) _ = _
                             simp only [Act.put, List.setIfInBounds_toArray, List.set_cons_zero, List.set_cons_succ, i64_w, i32_w]
                             rfl
                            refine pure_ (i := 46) (N := some 190) (v := ?_) (a' := ?_) #[Y,Y,Y,Y,Y,Y,Y,Y,Y,Y,Y,Y,Y,Y,Y,Y,Y,Y,Y,Y,Y,Y,Y,Y,Y,Y,Y,Y,Y,Y,Y,Y,Y,Y,Y,Y,Y,Y,Y,Y,Y,Y,Y,Y,Y,Y,Y,Z,Z,Z,Z,Z,Z,Z,Z] rfl rfl (any_of HT_.out (by kernel_rfl)) (fun _ _ _ h => h) (Or.inl ⟨by rfl, ?_⟩) ?_ ?_
                            rotate_left
                            ·intro w'
                             go_simp
                             with_reducible rfl
                            rotate_left
                            ·simp only [Act.put, List.setIfInBounds_toArray, List.set_cons_zero, List.set_cons_succ, i64_w, i32_w]
                             rfl
                            refine pure_ (i := 47) (N := some 191) (v := ?_) (a' := ?_) #[Y,Y,Y,Y,Y,Y,Y,Y,Y,Y,Y,Y,Y,Y,Y,Y,Y,Y,Y,Y,Y,Y,Y,Y,Y,Y,Y,Y,Y,Y,Y,Y,Y,Y,Y,Y,Y,Y,Y,Y,Y,Y,Y,Y,Y,Y,Y,Y,Z,Z,Z,Z,Z,Z,Z] rfl rfl (any_of HT_.out (by kernel_rfl)) (fun _ _ _ h => h) (Or.inl ⟨by rfl, ?_⟩) ?_ ?_
                            rotate_left
                            ·intro w'
                             go_simp
                             with_reducible rfl
                            rotate_left
                            ·simp only [Act.put, List.setIfInBounds_toArray, List.set_cons_zero, List.set_cons_succ, i64_w, i32_w]
                             rfl
                            refine pure_ (i := 48) (N := some 192) (v := ?_) (a' := ?_) #[Y,Y,Y,Y,Y,Y,Y,Y,Y,Y,Y,Y,Y,Y,Y,Y,Y,Y,Y,Y,Y,Y,Y,Y,Y,Y,Y,Y,Y,Y,Y,Y,Y,Y,Y,Y,Y,Y,Y,Y,Y,Y,Y,Y,Y,Y,Y,Y,Y,Z,Z,Z,Z,Z,Z] rfl rfl (any_of HT_.out (by kernel_rfl)) (fun _ _ _ h => h) (Or.inl ⟨by rfl, ?_⟩) ?_ ?_
                            rotate_left
                            ·intro w'
                             go_simp
                             with_reducible rfl
                            rotate_left
                            ·simp only [Act.put, List.setIfInBounds_toArray, List.set_cons_zero, List.set_cons_succ, i64_w, i32_w]
                             rfl
                            refine take_ (i := 49) (N := some 193) (v := ?_) (a' := ?_) #[Y,Y,Y,Y,Y,Y,Y,Y,Y,Y,Y,Y,Y,Y,Y,Y,Y,Y,Y,Y,Y,Y,Y,Y,Y,Y,Y,Y,Y,Y,Y,Y,Y,Y,Y,Y,Y,Y,Y,Y,Y,Y,Y,Y,Y,Y,Y,Y,Y,Y,Z,Z,Z,Z,Z] rfl rfl (take_ofW HT_.out HW_.out (by kernel_rfl)) (fun _ _ _ h => h) (Or.inl ⟨by rfl, ?_⟩) hHeld ?_ ?_
                            rotate_left
                            ·rintro w' ⟨s0, s1, s2, s3, s4, s5, s6, s7, s8, s9, s10, s11, s12, s13, s14⟩
                             go_simp
                             with_reducible rfl
                            rotate_left
                            ·simp only [Act.put, List.setIfInBounds_toArray, List.set_cons_zero, List.set_cons_succ, i64_w, i32_w]
                             rfl
                            refine take_ (i := 50) (N := some 194) (v := ?_) (a' := ?_) #[Y,Y,Y,Y,Y,Y,Y,Y,Y,Y,Y,Y,Y,Y,Y,Y,Y,Y,Y,Y,Y,Y,Y,Y,Y,Y,Y,Y,Y,Y,Y,Y,Y,Y,Y,Y,Y,Y,Y,Y,Y,Y,Y,Y,Y,Y,Y,Y,Y,Y,Y,Z,Z,Z,Z] rfl rfl (take_ofW HT_.out HW_.out (by kernel_rfl)) (fun _ _ _ h => h) (Or.inl ⟨by rfl, ?_⟩) hHeld ?_ ?_
                            rotate_left
                            ·rintro w' ⟨s0, s1, s2, s3, s4, s5, s6, s7, s8, s9, s10, s11, s12, s13, s14⟩
                             go_simp
                             with_reducible rfl
                            rotate_left
                            ·simp only [Act.put, List.setIfInBounds_toArray, List.set_cons_zero, List.set_cons_succ, i64_w, i32_w]
                             rfl
                            refine one_ (i := 51) (N := some 195) #[Y,Y,Y,Y,Y,Y,Y,Y,Y,Y,Y,Y,Y,Y,Y,Y,Y,Y,Y,Y,Y,Y,Y,Y,Y,Y,Y,Y,Y,Y,Y,Y,Y,Y,Y,Y,Y,Y,Y,Y,Y,Y,Y,Y,Y,Y,Y,Y,Y,Y,Y,Y,Z,Z,Z] rfl rfl (one_of HT_.out (by kernel_rfl)) (by decide) (fun K hK => ?_)
                            refine goes_ Try.func19 (by kernel_rfl) rfl #[.agg #[.int .i64 t281, .int .i64 t282, .string t283], .agg #[.int .i64 t281, .int .i64 t282, .string t283]] (by rfl) rfl rfl (by (try simp only [List.map_toArray, List.map_cons, List.map_nil]); first | done | rfl | (simp only [List.length_drop, List.length_take]; rfl)) ?_
                            with_reducible refine (impl_Apart.calls kj103 t281 t282 t283 t281 t282 t283 t320 _ A139.out).mono ?_
                            rintro e w147 ⟨rfl, hb⟩
                            refine ⟨_, rfl, ?_⟩
                            have n0_ := Aside0.mk (blk_below (g := gb287) (o := .cells #[.int .i64 t281, .int .i64 t282, .string t283] 25 (0, 0)) (by (with_reducible repeat (first | refine blk_drewN ?_ _ | refine blk_drew ?_ | refine blk_alloc ?_ _)); exact BK287.out) hb)
                            have n1_ := Aside0.mk (blk_below (g := gb288) (o := .cells #[.int .i64 t284, .int .i64 t285, .string t286] 25 (0, 0)) (by (with_reducible repeat (first | refine blk_drewN ?_ _ | refine blk_drew ?_ | refine blk_alloc ?_ _)); exact BK288.out) hb)
                            have n2_ := Aside0.mk (blk_below (g := gb294) (o := .cells #[.int .i64 (Int.tmod (rd t289 0) t284), .int .i64 (Int.tmod (rd t289 1) t285), .int .i64 (wrap64 (1 + (Int.tmod (rd t289 2) (wrap64 (t284 - (Int.tmod (rd t289 0) t284)))))), .int .i64 (wrap64 (1 + (Int.tmod (rd t289 3) (wrap64 (t285 - (Int.tmod (rd t289 1) t285))))))] 38 (0, 0)) (by (with_reducible repeat (first | refine blk_drewN ?_ _ | refine blk_drew ?_ | refine blk_alloc ?_ _)); exact BK294.out) hb)
                            have n3_ := Aside0.mk (blk_below (g := gb301) (o := .cells #[.int .i64 t297, .int .i64 t298, .string t299] 25 (0, 0)) (by (with_reducible repeat (first | refine blk_drewN ?_ _ | refine blk_drew ?_ | refine blk_alloc ?_ _)); exact BK301.out) hb)
                            have n4_ := Aside0.mk (blk_below (g := gb306) (o := .cells #[.int .i64 t302, .int .i64 t303, .string t304] 25 (0, 0)) (by (with_reducible repeat (first | refine blk_drewN ?_ _ | refine blk_drew ?_ | refine blk_alloc ?_ _)); exact BK306.out) hb)
                            have n5_ := Aside0.mk (blk_below (g := gb311) (o := .cells #[.int .i64 t307, .int .i64 t308, .string t309] 25 (0, 0)) (by (with_reducible repeat (first | refine blk_drewN ?_ _ | refine blk_drew ?_ | refine blk_alloc ?_ _)); exact BK311.out) hb)
                            have n6_ := Aside0.mk (below_step (by repeat (first | (with_reducible first | exact HB.out | apply below_alloc | apply pw_below_drewN | apply below_drew1 | refine below_set ?_ GE287.out | refine below_set ?_ GE288.out | refine below_set ?_ GE294.out | refine below_set ?_ GE301.out | refine below_set ?_ GE306.out | refine below_set ?_ GE311.out) | exact HB.out)) hb)
                            clear BK287
                            clear BK288
                            clear BK294
                            clear BK301
                            clear BK306
                            clear BK311
                            clear HB
                            have BK287 := n0_
                            have BK288 := n1_
                            have BK294 := n2_
                            have BK301 := n3_
                            have BK306 := n4_
                            have BK311 := n5_
                            have HB := n6_
                            clear n0_ n1_ n2_ n3_ n4_ n5_ n6_
                            (try clear hb)
                            (try clear hb2)
                            (try clear hk)
                            (try clear hi)
                            refine hK.out _ _ ⟨(blk_cell BK311.out 0).trans rfl, (blk_cell BK311.out 1).trans rfl, (blk_cell BK311.out 2).trans rfl, (blk_cell BK301.out 0).trans rfl, (blk_cell BK301.out 1).trans rfl, (blk_cell BK301.out 2).trans rfl, (blk_cell BK306.out 0).trans rfl, (blk_cell BK306.out 1).trans rfl, (blk_cell BK306.out 2).trans rfl, (blk_cell BK287.out 0).trans rfl, (blk_cell BK287.out 1).trans rfl, (blk_cell BK287.out 2).trans rfl, (blk_cell BK288.out 0).trans rfl, (blk_cell BK288.out 1).trans rfl, (blk_cell BK288.out 2).trans rfl⟩ (fun hHeld => ?_)
                            clear hK K
                            refine norm_ (a' := ?_) ?_ ?_
                            rotate_left
                            ·show Act.put _ (some 195) _ = _
                             simp only [Act.put, List.setIfInBounds_toArray, List.set_cons_zero, List.set_cons_succ, i64_w, i32_w]
                             rfl
                            refine pure_ (i := 52) (N := some 196) (v := ?_) (a' := ?_) #[Y,Y,Y,Y,Y,Y,Y,Y,Y,Y,Y,Y,Y,Y,Y,Y,Y,Y,Y,Y,Y,Y,Y,Y,Y,Y,Y,Y,Y,Y,Y,Y,Y,Y,Y,Y,Y,Y,Y,Y,Y,Y,Y,Y,Y,Y,Y,Y,Y,Y,Y,Y,Y,Z,Z] rfl rfl (any_of HT_.out (by kernel_rfl)) (fun _ _ _ h => h) (Or.inl ⟨by rfl, ?_⟩) ?_ ?_
                            rotate_left
                            ·intro w'
                             go_simp
                             with_reducible rfl
                            rotate_left
                            ·simp only [Act.put, List.setIfInBounds_toArray, List.set_cons_zero, List.set_cons_succ, i64_w, i32_w]
                             rfl
                            refine pure_ (i := 53) (N := some 197) (v := ?_) (a' := ?_) #[Y,Y,Y,Y,Y,Y,Y,Y,Y,Y,Y,Y,Y,Y,Y,Y,Y,Y,Y,Y,Y,Y,Y,Y,Y,Y,Y,Y,Y,Y,Y,Y,Y,Y,Y,Y,Y,Y,Y,Y,Y,Y,Y,Y,Y,Y,Y,Y,Y,Y,Y,Y,Y,Y,Z] rfl rfl (any_of HT_.out (by kernel_rfl)) (fun _ _ _ h => h) (Or.inl ⟨by rfl, ?_⟩) ?_ ?_
                            rotate_left
                            ·intro w'
                             go_simp
                             with_reducible rfl
                            rotate_left
                            ·simp only [Act.put, List.setIfInBounds_toArray, List.set_cons_zero, List.set_cons_succ, i64_w, i32_w]
                             rfl
                            refine pure_ (i := 54) (N := some 2) (v := ?_) (a' := ?_) #[Y,Y,Y,Y,Y,Y,Y,Y,Y,Y,Y,Y,Y,Y,Y,Y,Y,Y,Y,Y,Y,Y,Y,Y,Y,Y,Y,Y,Y,Y,Y,Y,Y,Y,Y,Y,Y,Y,Y,Y,Y,Y,Y,Y,Y,Y,Y,Y,Y,Y,Y,Y,Y,Y,Y] rfl rfl (any_of HT_.out (by kernel_rfl)) (fun _ _ _ h => h) (Or.inl ⟨by rfl, ?_⟩) ?_ ?_
                            rotate_left
                            ·intro w'
                             go_simp
                             with_reducible rfl
                            rotate_left
                            ·simp only [Act.put, List.setIfInBounds_toArray, List.set_cons_zero, List.set_cons_succ, i64_w, i32_w]
                             rfl
                            refine done_ (done_of HT_.out (by kernel_rfl)) ?_
                            try go_wp2
                            go_ret
                            exact ⟨by first | rfl | (simp [errW_none, errW_some] <;> rfl) | (simp only [← hji100]; first | rfl | (simp [errW_none, errW_some] <;> rfl)) | (simp [*, errW_none, errW_some] <;> rfl), by repeat (first | (with_reducible first | exact HB.out | apply below_alloc | apply pw_below_drewN | apply below_drew1 | refine below_set ?_ GE287.out | refine below_set ?_ GE288.out | refine below_set ?_ GE294.out | refine below_set ?_ GE301.out | refine below_set ?_ GE306.out | refine below_set ?_ GE311.out) | exact HB.out)⟩
                           ·rw [if_neg c138] at H
                            have c138b0 : decide (t319 ≤ t318) = false := decide_eq_false c138
                            clear c138
                            exact absurd H (by simp)
                          ·rw [if_neg c135] at H
                           have c135b0 : ((t317 == 0) == (t281 == t284 && (t282 == t285 && (t283.toList == t286.toList)))) = false := by simpa using c135
                           (try (have c135b1 : decide ((t317 == 0) = (t281 == t284 && (t282 == t285 && (t283.toList == t286.toList)))) = false := by simpa using c135))
                           (try (have c135b2 : ((t317 == 0) == (t281 == t284 && (t282 == t285 && (t283.toList == t286.toList)))) = false := by simpa using c135))
                           (try (have c135b3 : ¬ ((t317 == 0) = (t281 == t284 && (t282 == t285 && (t283.toList == t286.toList)))) := by simpa using c135))
                           clear c135
                           exact absurd H (by simp)
                         ·rw [if_neg c133] at H
                          have c133b0 : (t315 == t316) = false := beq_eq_false_iff_ne.mpr c133
                          have c133b1 : (t315 != t316) = true := bne_iff_ne.mpr c133
                          exact absurd H (by simp)
                        ·rw [if_neg c130] at H
                         have c130b0 : (t314 == x16_103) = false := beq_eq_false_iff_ne.mpr c130
                         have c130b1 : (t314 != x16_103) = true := bne_iff_ne.mpr c130
                         exact absurd H (by simp)
                       ·rw [if_neg c128] at H
                        have c128b0 : (t307 == t297 && (t308 == t298 && (t309.toList == t299.toList))) = false := by simpa using c128
                        (try (have c128b1 : decide (t307 = t297 && (t308 == t298 && (t309.toList == t299.toList))) = false := by simpa using c128))
                        (try (have c128b2 : (t307 == t297 && (t308 == t298 && (t309.toList == t299.toList))) = false := by simpa using c128))
                        (try (have c128b3 : ¬ (t307 = t297 && (t308 == t298 && (t309.toList == t299.toList))) := by simpa using c128))
                        clear c128
                        exact absurd H (by simp)
                      ·replace c127 := Bool.eq_false_iff.mpr c127
                       subst c127
                       have H1 : (some false) = some true := by rw [if_neg (show ¬ (false = true) by decide)] at H; exact H
                       clear H
                       have H := H1
                       clear H1
                       exact absurd H (by simp)
                     ·replace c126 := Bool.eq_false_iff.mpr c126
                      subst c126
                      have H1 : (some false) = some true := by rw [if_neg (show ¬ (false = true) by decide)] at H; exact H
                      clear H
                      have H := H1
                      clear H1
                      exact absurd H (by simp)
                    ·replace c125 := Bool.eq_false_iff.mpr c125
                     subst c125
                     have H1 : (some false) = some true := by rw [if_neg (show ¬ (false = true) by decide)] at H; exact H
                     clear H
                     have H := H1
                     clear H1
                     exact absurd H (by simp)
                 ·rw [if_neg c102] at H
                  exact absurd H (by simp)
                ·rw [if_neg c101] at H
                 exact absurd H (by simp)
            ·rw [if_neg c19] at H
             exact absurd H (by simp)
          ·rw [if_neg c17] at H
           exact absurd H (by simp)
        ·rw [if_neg c12] at H
         exact absurd H (by simp)
      ·rw [if_neg c10] at H
       exact absurd H (by simp)
    ·rw [if_neg c8] at H
     exact absurd H (by simp)
  ·rw [if_neg c6] at H
   exact absurd H (by simp)

/-- The pure statement of laws_FnCuts. -/
def laws_FnCuts.Pure : Prop := ∀ (l0 : List Int), l0.length ≤ maxLen → l0.length * 1 ≤ 140737488351232 → (∀ x ∈ l0, (Lit.int .u8 x).wf = true) → ∃ k, laws_FnCuts.f k l0 = some true
theorem laws_FnCuts.walk (P : laws_FnCuts.Pure) (a0 : Option Addr) (len0 cap0 : Nat) (z0 : List Int) (w : World) (w0 : (a0 = none ∧ len0 = 0 ∧ cap0 = 0 ∧ z0 = []) ∨ ∃ x, a0 = some x ∧ len0 ≤ cap0 ∧ cap0 ≤ maxLen ∧ z0.length = cap0 ∧ (∀ i, i < z0.length → w.cell? (x.add i) = some (.int .u8 (z0.getD i 0))) ∧ ∀ n ∈ z0, (Lit.int .u8 n).wf = true) (y0 : len0 * 1 ≤ 140737488351232) :
  Calls Try.prog 4 #[.slice a0 len0 cap0] w fun e w' => e = .returned (.bool true) ∧ Below w.heap.size w w' := by
 obtain ⟨l0, rfl, hr0, hm0, hw0, hc0⟩ := ReadsInt.ofRowC w0
 obtain ⟨k, h⟩ := P l0 hm0 y0 hw0
 refine (laws_FnCuts.calls k _ _ l0 w (Kd.C_of_reads (d := (0 : Int)) (h1 := fun _ => rfl) hr0) hc0 h).mono ?_
 rintro e w' ⟨rfl, hd⟩
 exact ⟨rfl, hd⟩

end Go.Proofs.Ytnaccgommclhaaa.QFnCuts
