/- What the law reaches, as plain functions, each with the proof that its call comes to its answer: written by a program for this claim. -/
import Derived.Test.YtnaccgommclhaaaQFnExactSquareDotsx0
import Derived.Test.YtnaccgommclhaaaQFnExactSquareDotsx1
import Derived.Test.YtnaccgommclhaaaUFnExactSquareDotsV5
namespace Go.Proofs.Ytnaccgommclhaaa.QFnExactSquareDots
open Go.RowKit Go.Proofs.YtnaccgommclhaaaW.PrintWords Go.Proofs.YtnaccgommclhaaaW.PrintLast Go.Proofs.YtnaccgommclhaaaW.PrintMore Go.Proofs.YtnaccgommclhaaaV
attribute [local go_sem] max2_int min2_int max_two min_two max_three min_three max_four min_four   -- for this text's walks alone
set_option linter.unusedVariables false
set_option linter.unusedSimpArgs false
set_option maxHeartbeats 8000000
set_option maxRecDepth 100000

def spec_DotAt.f (k : Nat) (a0_0 : Int) (a0_1 : Int) (a0_2 : ByteArray) (a1 : Int) (a2 : Int) : Option (Int) := (spec_PicOk.f a0_0 a0_1 a0_2).bind fun t132 => (if t132 = true then ((spec_Brought.f k a2 0 (wrap64 (a0_1 - 1))).bind fun t133 => ((spec_Brought.f k a1 0 (wrap64 (a0_0 - 1))).bind fun t134 => (if 0 ≤ (wrap64 ((wrap64 (t133 * a0_0)) + t134)) then (if (wrap64 ((wrap64 (t133 * a0_0)) + t134)) < (a0_2.size : Int) then (some (wrap64 (bt a0_2 (wrap64 ((wrap64 (t133 * a0_0)) + t134))))) else (none)) else (none)))) else (some (-1)))
def spec_DotAt.T3 : Bool × List (List Nat × List Nat) := (true, [([], []), ([0], [0]), ([], []), ([], []), ([3], [3]), ([4], [4]), ([2, 5], [2, 5]), ([], []), ([7], [7]), ([6, 8], [6, 8]), ([], []), ([], []), ([11], [11]), ([12], [12]), ([10, 13, 6], [10, 13]), ([9, 14], [9, 14]), ([1, 15], [1, 15]), ([16], [16]), ([17, 14, 0, 1, 2, 3, 4, 5, 6, 7, 8, 9, 10, 11, 12, 13, 14, 15, 16, 17], [17])])
def spec_DotAt.B3 : List Nat := [0, 1, 0, 0, 8, 24, 60, 0, 128, 508, 0, 0, 2048, 6144, 15484, 32764, 65535, 131071, 262143]
theorem spec_DotAt.tab3 : rtab .any (opsOf Try.f87 3) = spec_DotAt.T3 := by kernel_rfl
theorem spec_DotAt.bits3 : waitsOk spec_DotAt.T3.2 spec_DotAt.B3 = true := by kernel_rfl
theorem spec_DotAt.calls (k : Nat) (a0_0 : Int) (a0_1 : Int) (a0_2 : ByteArray) (a1 : Int) (a2 : Int) (r : Int) (w : World) (h : spec_DotAt.f k a0_0 a0_1 a0_2 a1 a2 = some r) :
  Calls Try.prog 87 #[.agg #[.int .i64 a0_0, .int .i64 a0_1, .string a0_2], .int .i64 a1, .int .i64 a2] w fun e w' => e = .returned (.int .i64 r) ∧ Below w.heap.size w w' := by
 have hu25 := Try.underlying25
 have HB := Aside0.mk (Below.refl w.heap.size w)
 have H := h
 clear h
 unfold spec_DotAt.f at H
 replace H := bnd H
 obtain ⟨t132, A4, H⟩ := H
 by_cases c5 : t132 = true
 ·subst c5
  rw [if_pos rfl] at H
  replace H := bnd H
  obtain ⟨t133, A6, H⟩ := H
  replace H := bnd H
  obtain ⟨t134, A7, H⟩ := H
  obtain ⟨ji8, hji8⟩ : ∃ j_ : Int, (wrap64 ((wrap64 (t133 * a0_0)) + t134)) = j_ := ⟨_, rfl⟩
  replace H : (if 0 ≤ (ji8) then (if (ji8) < (a0_2.size : Int) then (some (wrap64 (bt a0_2 (ji8)))) else (none)) else (none)) = some r := by first | (rw [hji8] at H; exact H) | (simp only [hji8] at H ⊢; exact H)
  (try rw [hji8] at A4)
  (try rw [hji8] at A6)
  (try rw [hji8] at A7)
  have hji8w : (IntKind.i64.wrap ((wrap64 (t133 * a0_0)) + t134)) = ji8 := (i64_w _).trans hji8
  by_cases c9 : 0 ≤ (ji8)
  ·rw [if_pos c9] at H
   have c9b0 := decide_eq_true c9
   clear c9
   by_cases c10 : (ji8) < (a0_2.size : Int)
   ·rw [if_pos c10] at H
    have c10b0 := decide_eq_true c10
    clear c10
    obtain rfl := Option.some.inj H
    go_enter Try.func87, Try.ntmps87
    try go_wp2_with (first | ((with_reducible refine gate_dst (N := 3) rfl ?_); refine bx 3 #[.int .i64 a0_0, .int .i64 a0_1, .string a0_2] 25 ?_; intro gb131 hg w12 BK131 hb; have GW131 := ge HB hg; have GE131 := ge HB hg; replace HB := bs HB hb; clear hb hg; obtain ⟨hcz13_0, hcz13_1, hcz13_2, hfz13_0, hfz13_1, hfz13_2⟩ := cl3 BK131) | ((with_reducible refine gate_callee (f := 41) rfl ?_); refine gL (some 8) Try.func41 #[.agg #[.int .i64 a0_0, .int .i64 a0_1, .string a0_2]] ?_; (with_reducible refine (spec_PicOk.calls a0_0 a0_1 a0_2 true _ A4.out).mono ?_); rintro e w14 ⟨rfl, hb⟩; refine ⟨_, rfl, ?_⟩; replace BK131 := bb BK131 hb; replace HB := bs HB hb; (try clear hb)))
    replace BK131 := Aside0.mk (blk_drew BK131.out)
    replace HB := Aside0.mk (below_drew1 HB.out)
    refine start_ (n := 19) (S := fun w' => w'.cell? ⟨gb131, 0, none⟩ = some (.int .i64 a0_0) ∧ w'.cell? ⟨gb131, 1, none⟩ = some (.int .i64 a0_1) ∧ w'.cell? ⟨gb131, 2, none⟩ = some (.string a0_2)) (ds := []) (ba 19 0) (by kernel_rfl) rfl rfl ⟨bc BK131 0, bc BK131 1, bc BK131 2⟩ (fun hHeld => ?_); refine with_tabW spec_DotAt.tab3 spec_DotAt.bits3 (fun HT_ HW_ => ?_)
    generalize w14.drew = w15 at BK131 HB hHeld ⊢
    refine pu 0 10 (ba 19 1) ?_
    refine pu 2 12 (ba 19 5) ?_
    refine pu 3 13 (ba 19 13) ?_
    refine pu 7 17 (ba 19 141) ?_
    refine pu 10 20 (ba 19 1165) ?_
    refine pu 11 21 (ba 19 3213) ?_
    refine tk 1 11 (ba 19 3215) hHeld ?_
    refine tk 4 14 (ba 19 3231) hHeld ?_
    refine pu 5 15 (ba 19 3263) ?_
    refine tk 8 18 (ba 19 3519) hHeld ?_
    refine tk 12 22 (ba 19 7615) hHeld ?_
    refine pu 13 23 (ba 19 15807) ?_
    refine on 6 16 (ba 19 15871) (fun K hK => ?_)
    refine gS Try.func108 #[.int .i64 a2, .int .i64 0, .int .i64 (wrap64 (a0_1 - 1))] ?_
    with_reducible refine (spec_Brought.calls k a2 0 (wrap64 (a0_1 - 1)) t133 _ A6.out).mono ?_
    rintro e w' ⟨rfl, ⟨nd, rfl⟩⟩
    refine ⟨_, rfl, ?_⟩
    refine hK.out _ _ ⟨bc BK131 0, bc BK131 1, bc BK131 2⟩ (fun hHeld => ?_)
    clear hK K
    refine nm ?_
    refine pu 9 19 (ba 19 16383) ?_
    refine on 14 24 (ba 19 32767) (fun K hK => ?_)
    refine gS Try.func108 #[.int .i64 a1, .int .i64 0, .int .i64 (wrap64 (a0_0 - 1))] ?_
    with_reducible refine (spec_Brought.calls k a1 0 (wrap64 (a0_0 - 1)) t134 _ A7.out).mono ?_
    rintro e w' ⟨rfl, ⟨nd, rfl⟩⟩
    refine ⟨_, rfl, ?_⟩
    have p11 : 0 ≤ ((ji8) : Int) := od
    have q11 : (ji8) < (a0_2.size : Int) := od
    have hx11 := bt_at a0_2 (ji8)
    replace p11 := eq_true p11
    replace q11 := eq_true q11
    refine hK.out _ _ ⟨bc BK131 0, bc BK131 1, bc BK131 2⟩ (fun hHeld => ?_)
    clear hK K
    refine nm ?_
    refine pu 15 25 (ba 19 65535) ?_
    refine tk 16 26 (ba 19 131071) hHeld ?_
    refine pu 17 27 (ba 19 262143) ?_
    refine pu 18 6 (ba 19 524287) ?_
    refine done_ (done_of HT_.out (by kernel_rfl)) ?_
    try go_wp2
    go_ret
    exact ⟨by first | rfl | (simp [errW_none, errW_some] <;> rfl) | (simp only [← hji8]; first | rfl | (simp [errW_none, errW_some] <;> rfl)) | (simp [*, errW_none, errW_some] <;> rfl), bo HB⟩
   ·rw [if_neg c10] at H
    exact absurd H (by simp)
  ·rw [if_neg c9] at H
   exact absurd H (by simp)
 ·replace c5 := Bool.eq_false_iff.mpr c5
  subst c5
  rw [if_neg nft] at H
  obtain rfl := Option.some.inj H
  go_enter Try.func87, Try.ntmps87
  go_wp2_with (first | ((with_reducible refine gate_dst (N := 3) rfl ?_); refine bx 3 #[.int .i64 a0_0, .int .i64 a0_1, .string a0_2] 25 ?_; intro gb131 hg w16 BK131 hb; have GW131 := ge HB hg; have GE131 := ge HB hg; replace HB := bs HB hb; clear hb hg; obtain ⟨hcz17_0, hcz17_1, hcz17_2, hfz17_0, hfz17_1, hfz17_2⟩ := cl3 BK131) | ((with_reducible refine gate_callee (f := 41) rfl ?_); refine gL (some 8) Try.func41 #[.agg #[.int .i64 a0_0, .int .i64 a0_1, .string a0_2]] ?_; (with_reducible refine (spec_PicOk.calls a0_0 a0_1 a0_2 false _ A4.out).mono ?_); rintro e w18 ⟨rfl, hb⟩; refine ⟨_, rfl, ?_⟩; replace BK131 := bb BK131 hb; replace HB := bs HB hb; (try clear hb)))
  go_ret
  exact ⟨re, bo HB⟩

end Go.Proofs.Ytnaccgommclhaaa.QFnExactSquareDots
