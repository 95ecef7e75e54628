/- What the law reaches, as plain functions, each with the proof that its call comes to its answer: written by a program for this claim. -/
import Derived.Test.YtnaccgommclhaaaQFnExactSquareDotsx0
import Derived.Test.YtnaccgommclhaaaQFnExactSquareDotsx1
import Derived.Test.YtnaccgommclhaaaQFnExactSquareDotsx3
import Derived.Test.YtnaccgommclhaaaQFnExactSquareDotsx9
import Derived.Test.YtnaccgommclhaaaQFnExactSquareDotsx10
import Derived.Test.YtnaccgommclhaaaQFnExactSquareDotsx11
import Derived.Test.YtnaccgommclhaaaQFnExactSquareDotsx12
import Derived.Test.YtnaccgommclhaaaUFnExactSquareDotsV5
namespace Go.Proofs.Ytnaccgommclhaaa.QFnExactSquareDots
open Go.RowKit Go.Proofs.YtnaccgommclhaaaW.PrintWords Go.Proofs.YtnaccgommclhaaaW.PrintLast Go.Proofs.YtnaccgommclhaaaW.PrintMore Go.Proofs.YtnaccgommclhaaaV
attribute [local go_sem] max2_int min2_int max_two min_two max_three min_three max_four min_four   -- for this text's walks alone
set_option linter.unusedVariables false
set_option linter.unusedSimpArgs false
set_option maxHeartbeats 8000000
set_option maxRecDepth 100000

mutual
def spec_SquareDots.j0 : Nat → Int → Int → Int → Int → Bool → Int → Int → ByteArray → Int → Int → ByteArray → Bool → Int → Bool → Bool → Int → Int → Int → Int → List Int → Option (List Int × Bool)
 | 0, _, _, _, _, _, _, _, _, _, _, _, _, _, _, _, _, _, _, _, _ => none
 | k + 1, x2, x3, x5, x6, x49, x337000, x337001, x337002, x338000, x338001, x338002, x339000, x339001, x339002, x339003, x340000, x340001, x340002, x340003, x340004 => if x49 = true then (some ((([] : List Int)), false)) else (if x340000 = 2 then ((spec_EdgesOf.f k x337000 x337001 x337002 x5 x6).bind fun bt348 => ((spec_LevelsBack.f k x340004 x339000 x339001 x339002 x339003).bind fun bt357 => ((spec_GuessOf.f k x340001 bt348.1 bt348.2.1 bt348.2.2.1).bind fun t361 => ((spec_Joined.f k t361 bt357.1).bind fun t364 => (some (t364, true)))))) else (if x339000 = true then (spec_SquareDots.j1 k x2 x3 x5 x6 true x338000 x338001 x338002 x339000 x339001 x339002 x339003 x340000 x340001 x340002 x340003 x340004) else ((spec_PicOk.f x338000 x338001 x338002).bind fun t367 => (spec_SquareDots.j1 k x2 x3 x5 x6 (!t367) x338000 x338001 x338002 x339000 x339001 x339002 x339003 x340000 x340001 x340002 x340003 x340004))))
def spec_SquareDots.j1 : Nat → Int → Int → Int → Int → Bool → Int → Int → ByteArray → Bool → Int → Bool → Bool → Int → Int → Int → Int → List Int → Option (List Int × Bool)
 | 0, _, _, _, _, _, _, _, _, _, _, _, _, _, _, _, _, _ => none
 | k + 1, x2, x3, x5, x6, x80, x338000, x338001, x338002, x339000, x339001, x339002, x339003, x340000, x340001, x340002, x340003, x340004 => if x80 = true then (some ((([] : List Int)), false)) else ((spec_BlockOf.f k x338000 x338001 x338002 (wrap64 ((wrap64 (x2 + x5)) + x340002)) (wrap64 ((wrap64 (x3 + x6)) + x340003))).bind fun t371 => (if x340000 = 0 then (some (t371, true)) else ((spec_LevelsBack.f k x340004 x339000 x339001 x339002 x339003).bind fun bt374 => ((spec_Joined.f k t371 bt374.1).bind fun t378 => (some (t378, true))))))
end
def spec_SquareDots.f (k : Nat) (a0_0 : Int) (a0_1 : Int) (a0_2 : ByteArray) (a1_0 : Int) (a1_1 : Int) (a1_2 : ByteArray) (a2 : Int) (a3 : Int) (a4_0 : Bool) (a4_1 : Int) (a4_2 : Bool) (a4_3 : Bool) (a5 : Int) (a6 : Int) (a7_0 : Int) (a7_1 : Int) (a7_2 : Int) (a7_3 : Int) (l7_4 : List Int) : Option (List Int × Bool) := (spec_l13Fits.f a0_0 a0_1 a0_2 a5 a6).bind fun t340 => (if t340 = true then ((spec_l01In.f a2 0 256).bind fun t341 => (if t341 = true then ((spec_l01In.f a3 0 256).bind fun t342 => (if t342 = true then ((spec_SquareOk.f k a7_0 a7_1 a7_2 a7_3 l7_4).bind fun t343 => (if t343 = true then ((spec_CondOk.f a4_0 a4_1 a4_2 a4_3).bind fun t344 => (spec_SquareDots.j0 k a2 a3 a5 a6 (!t344) a0_0 a0_1 a0_2 a1_0 a1_1 a1_2 a4_0 a4_1 a4_2 a4_3 a7_0 a7_1 a7_2 a7_3 l7_4)) else (spec_SquareDots.j0 k a2 a3 a5 a6 true a0_0 a0_1 a0_2 a1_0 a1_1 a1_2 a4_0 a4_1 a4_2 a4_3 a7_0 a7_1 a7_2 a7_3 l7_4))) else (spec_SquareDots.j0 k a2 a3 a5 a6 true a0_0 a0_1 a0_2 a1_0 a1_1 a1_2 a4_0 a4_1 a4_2 a4_3 a7_0 a7_1 a7_2 a7_3 l7_4))) else (spec_SquareDots.j0 k a2 a3 a5 a6 true a0_0 a0_1 a0_2 a1_0 a1_1 a1_2 a4_0 a4_1 a4_2 a4_3 a7_0 a7_1 a7_2 a7_3 l7_4))) else (spec_SquareDots.j0 k a2 a3 a5 a6 true a0_0 a0_1 a0_2 a1_0 a1_1 a1_2 a4_0 a4_1 a4_2 a4_3 a7_0 a7_1 a7_2 a7_3 l7_4))
theorem spec_SquareDots.calls (k : Nat) (a0_0 : Int) (a0_1 : Int) (a0_2 : ByteArray) (a1_0 : Int) (a1_1 : Int) (a1_2 : ByteArray) (a2 : Int) (a3 : Int) (a4_0 : Bool) (a4_1 : Int) (a4_2 : Bool) (a4_3 : Bool) (a5 : Int) (a6 : Int) (a7_0 : Int) (a7_1 : Int) (a7_2 : Int) (a7_3 : Int) (A7_4 : Option Addr) (c7_4 : Nat) (l7_4 : List Int) (r1 : List Int) (r2 : Bool) (w : World) (hr7_4 : Kd.C (Kd.int .i64) w A7_4 l7_4.length l7_4) (hc7_4 : l7_4.length ≤ c7_4) (h : spec_SquareDots.f k a0_0 a0_1 a0_2 a1_0 a1_1 a1_2 a2 a3 a4_0 a4_1 a4_2 a4_3 a5 a6 a7_0 a7_1 a7_2 a7_3 l7_4 = some (r1, r2)) :
  Calls Try.prog 31 #[.agg #[.int .i64 a0_0, .int .i64 a0_1, .string a0_2], .agg #[.int .i64 a1_0, .int .i64 a1_1, .string a1_2], .int .i64 a2, .int .i64 a3, .agg #[.bool a4_0, .int .i64 a4_1, .bool a4_2, .bool a4_3], .int .i64 a5, .int .i64 a6, .agg #[.int .i64 a7_0, .int .i64 a7_1, .int .i64 a7_2, .int .i64 a7_3, .slice A7_4 l7_4.length c7_4]] w fun e w' => ∃ v0_ : Value, e = .returned (.tuple #[v0_, .bool r2]) ∧ Kd.R (Kd.int .i64) 3 w' w.heap.size (fun _ => True) v0_ r1 ∧ Below w.heap.size w w' := by
 have hu25 := Try.underlying25
 have hu50 := Try.underlying50
 have hu63 := Try.underlying63
 have hu101 := Try.underlying101
 have HR7_4 := Aside0.mk hr7_4
 have HC7_4 := Aside0.mk hc7_4
 clear hr7_4 hc7_4
 have HB := Aside0.mk (Below.refl w.heap.size w)
 have H := h
 clear h
 unfold spec_SquareDots.f at H
 have HC9 := Aside0.mk H
 clear H
 go_enter Try.func31, Try.ntmps31
 go_upto_region 1 with (first | ((with_reducible refine gate_dst (N := 8) rfl ?_); refine bx 8 #[.int .i64 a0_0, .int .i64 a0_1, .string a0_2] 25 ?_; intro gb336 hg w10 BK336 hb; have GW336 := ge HB hg; have GE336 := ge HB hg; replace HB := bs HB hb; clear hb hg) | ((with_reducible refine gate_dst (N := 9) rfl ?_); refine bx 9 #[.int .i64 a1_0, .int .i64 a1_1, .string a1_2] 25 ?_; intro gb337 hg w11 BK337 hb; have GW337 := ge HB hg; have GE337 := ge HB hg; have NB336_337 := n1 BK336 hg; have NB337_336 := n2 BK336 hg; replace BK336 := bb BK336 hb; replace HB := bs HB hb; clear hb hg) | ((with_reducible refine gate_dst (N := 12) rfl ?_); refine bx 12 #[.bool a4_0, .int .i64 a4_1, .bool a4_2, .bool a4_3] 50 ?_; intro gb338 hg w12 BK338 hb; have GW338 := ge HB hg; have GE338 := ge HB hg; have NB336_338 := n1 BK336 hg; have NB338_336 := n2 BK336 hg; have NB337_338 := n1 BK337 hg; have NB338_337 := n2 BK337 hg; replace BK336 := bb BK336 hb; replace BK337 := bb BK337 hb; replace HB := bs HB hb; clear hb hg) | ((with_reducible refine gate_dst (N := 15) rfl ?_); refine bx 15 #[.int .i64 a7_0, .int .i64 a7_1, .int .i64 a7_2, .int .i64 a7_3, .slice A7_4 l7_4.length c7_4] 63 ?_; intro gb339 hg w13 BK339 hb; have GW339 := ge HB hg; have GE339 := ge HB hg; have NB336_339 := n1 BK336 hg; have NB339_336 := n2 BK336 hg; have NB337_339 := n1 BK337 hg; have NB339_337 := n2 BK337 hg; have NB338_339 := n1 BK338 hg; have NB339_338 := n2 BK338 hg; replace BK336 := bb BK336 hb; replace BK337 := bb BK337 hb; replace BK338 := bb BK338 hb; replace HB := bs HB hb; clear hb hg))
 (try simp only [Act.put, List.setIfInBounds_toArray, List.set_cons_zero, List.set_cons_succ])
 go_cut [49] (fun v49 wc => ∃ (kq : Nat) (x49_8 : Bool), v49 = .bool x49_8 ∧ Aside0 (spec_SquareDots.j0 kq a2 a3 a5 a6 x49_8 a0_0 a0_1 a0_2 a1_0 a1_1 a1_2 a4_0 a4_1 a4_2 a4_3 a7_0 a7_1 a7_2 a7_3 l7_4 = some (r1, r2)) ∧ Aside0 (kq ≤ k) ∧ Aside0 (wc.heap[gb336]? = some (.cells #[.int .i64 a0_0, .int .i64 a0_1, .string a0_2] 25 (0, 0))) ∧ Aside0 (wc.heap[gb337]? = some (.cells #[.int .i64 a1_0, .int .i64 a1_1, .string a1_2] 25 (0, 0))) ∧ Aside0 (wc.heap[gb338]? = some (.cells #[.bool a4_0, .int .i64 a4_1, .bool a4_2, .bool a4_3] 50 (0, 0))) ∧ Aside0 (wc.heap[gb339]? = some (.cells #[.int .i64 a7_0, .int .i64 a7_1, .int .i64 a7_2, .int .i64 a7_3, (.slice A7_4 l7_4.length c7_4)] 63 (0, 0))) ∧ Aside0 (Below w.heap.size w wc))
 case first =>
  have H := HC9.out
  clear HC9
  replace H := bnd H
  obtain ⟨t340, A14, H⟩ := H
  by_cases c15 : t340 = true
  ·subst c15
   rw [if_pos rfl] at H
   replace H := bnd H
   obtain ⟨t341, A16, H⟩ := H
   by_cases c17 : t341 = true
   ·subst c17
    rw [if_pos rfl] at H
    replace H := bnd H
    obtain ⟨t342, A18, H⟩ := H
    by_cases c19 : t342 = true
    ·subst c19
     rw [if_pos rfl] at H
     replace H := bnd H
     obtain ⟨t343, A20, H⟩ := H
     by_cases c21 : t343 = true
     ·subst c21
      rw [if_pos rfl] at H
      replace H := bnd H
      obtain ⟨t344, A22, H⟩ := H
      have H' := Aside0.mk H
      clear H
      have hnb23 := NB336_337.out
      have hnc23 := NB337_336.out
      have hnb24 := NB336_338.out
      have hnc24 := NB338_336.out
      have hnb25 := NB336_339.out
      have hnc25 := NB339_336.out
      obtain ⟨hcz26_0, hcz26_1, hcz26_2, hfz26_0, hfz26_1, hfz26_2⟩ := cl3 BK336
      go_wp2_with (first | ((with_reducible refine gate_callee (f := 65) rfl ?_); refine gL (some 28) Try.func65 #[.agg #[.int .i64 a0_0, .int .i64 a0_1, .string a0_2], .int .i64 a5, .int .i64 a6] ?_; (with_reducible refine (spec_l13Fits.calls a0_0 a0_1 a0_2 a5 a6 true _ A14.out).mono ?_); rintro e w27 ⟨rfl, hb⟩; refine ⟨_, rfl, ?_⟩; replace BK336 := bb BK336 hb; replace BK337 := bb BK337 hb; replace BK338 := bb BK338 hb; replace BK339 := bb BK339 hb; replace HB := bs HB hb; (try clear hb)) | (go_at_call 58; (with_reducible refine (spec_l01In.calls a2 0 256 true _ A16.out).mono ?_); rintro e w' ⟨rfl, ⟨nd, rfl⟩⟩) | (go_at_call 58; (with_reducible refine (spec_l01In.calls a3 0 256 true _ A18.out).mono ?_); rintro e w' ⟨rfl, ⟨nd, rfl⟩⟩; have hnb28 := NB339_337.out; have hnc28 := NB337_339.out; have hnb29 := NB339_338.out; have hnc29 := NB338_339.out; obtain ⟨hcz30_0, hcz30_1, hcz30_2, hcz30_3, hcz30_4, hfz30_0, hfz30_1, hfz30_2, hfz30_3, hfz30_4⟩ := cl5 BK339) | (go_at_call 66; (with_reducible refine (spec_SquareOk.calls k a7_0 a7_1 a7_2 a7_3 _ _ l7_4 true _ ?side1 ?side2 A20.out).mono ?_); (case side1 => exact ca (Kd.C_below HR7_4.out (bo HB))); (case side2 => exact HC7_4.out); rintro e w31 ⟨rfl, hb⟩; replace BK336 := bb BK336 hb; replace BK337 := bb BK337 hb; replace BK338 := bb BK338 hb; replace BK339 := bb BK339 hb; replace HB := bs HB hb; (try clear hb); have hnb32 := NB338_337.out; have hnc32 := NB337_338.out; obtain ⟨hcz33_0, hcz33_1, hcz33_2, hcz33_3, hfz33_0, hfz33_1, hfz33_2, hfz33_3⟩ := cl4 BK338) | (go_at_call 59; (with_reducible refine (spec_CondOk.calls a4_0 a4_1 a4_2 a4_3 t344 _ A22.out).mono ?_); rintro e w34 ⟨rfl, hb⟩; replace BK336 := bb BK336 hb; replace BK337 := bb BK337 hb; replace BK338 := bb BK338 hb; replace BK339 := bb BK339 hb; replace HB := bs HB hb; (try clear hb)))
      go_meet
      case rel => exact ⟨_, (!t344), rv, H', om, bk BK336, bk BK337, bk BK338, bk BK339, bh HB⟩
     ·replace c21 := Bool.eq_false_iff.mpr c21
      subst c21
      rw [if_neg nft] at H
      have H' := Aside0.mk H
      clear H
      have hnb35 := NB336_337.out
      have hnc35 := NB337_336.out
      have hnb36 := NB336_338.out
      have hnc36 := NB338_336.out
      have hnb37 := NB336_339.out
      have hnc37 := NB339_336.out
      obtain ⟨hcz38_0, hcz38_1, hcz38_2, hfz38_0, hfz38_1, hfz38_2⟩ := cl3 BK336
      go_wp2_with (first | ((with_reducible refine gate_callee (f := 65) rfl ?_); refine gL (some 28) Try.func65 #[.agg #[.int .i64 a0_0, .int .i64 a0_1, .string a0_2], .int .i64 a5, .int .i64 a6] ?_; (with_reducible refine (spec_l13Fits.calls a0_0 a0_1 a0_2 a5 a6 true _ A14.out).mono ?_); rintro e w39 ⟨rfl, hb⟩; refine ⟨_, rfl, ?_⟩; replace BK336 := bb BK336 hb; replace BK337 := bb BK337 hb; replace BK338 := bb BK338 hb; replace BK339 := bb BK339 hb; replace HB := bs HB hb; (try clear hb)) | (go_at_call 58; (with_reducible refine (spec_l01In.calls a2 0 256 true _ A16.out).mono ?_); rintro e w' ⟨rfl, ⟨nd, rfl⟩⟩) | (go_at_call 58; (with_reducible refine (spec_l01In.calls a3 0 256 true _ A18.out).mono ?_); rintro e w' ⟨rfl, ⟨nd, rfl⟩⟩; have hnb40 := NB339_337.out; have hnc40 := NB337_339.out; have hnb41 := NB339_338.out; have hnc41 := NB338_339.out; obtain ⟨hcz42_0, hcz42_1, hcz42_2, hcz42_3, hcz42_4, hfz42_0, hfz42_1, hfz42_2, hfz42_3, hfz42_4⟩ := cl5 BK339) | (go_at_call 66; (with_reducible refine (spec_SquareOk.calls k a7_0 a7_1 a7_2 a7_3 _ _ l7_4 false _ ?side1 ?side2 A20.out).mono ?_); (case side1 => exact ca (Kd.C_below HR7_4.out (bo HB))); (case side2 => exact HC7_4.out); rintro e w43 ⟨rfl, hb⟩; replace BK336 := bb BK336 hb; replace BK337 := bb BK337 hb; replace BK338 := bb BK338 hb; replace BK339 := bb BK339 hb; replace HB := bs HB hb; (try clear hb)))
      go_meet
      case rel => exact ⟨_, (true), rv, H', om, bk BK336, bk BK337, bk BK338, bk BK339, bh HB⟩
    ·replace c19 := Bool.eq_false_iff.mpr c19
     subst c19
     rw [if_neg nft] at H
     have H' := Aside0.mk H
     clear H
     have hnb44 := NB336_337.out
     have hnc44 := NB337_336.out
     have hnb45 := NB336_338.out
     have hnc45 := NB338_336.out
     have hnb46 := NB336_339.out
     have hnc46 := NB339_336.out
     obtain ⟨hcz47_0, hcz47_1, hcz47_2, hfz47_0, hfz47_1, hfz47_2⟩ := cl3 BK336
     go_wp2_with (first | ((with_reducible refine gate_callee (f := 65) rfl ?_); refine gL (some 28) Try.func65 #[.agg #[.int .i64 a0_0, .int .i64 a0_1, .string a0_2], .int .i64 a5, .int .i64 a6] ?_; (with_reducible refine (spec_l13Fits.calls a0_0 a0_1 a0_2 a5 a6 true _ A14.out).mono ?_); rintro e w48 ⟨rfl, hb⟩; refine ⟨_, rfl, ?_⟩; replace BK336 := bb BK336 hb; replace BK337 := bb BK337 hb; replace BK338 := bb BK338 hb; replace BK339 := bb BK339 hb; replace HB := bs HB hb; (try clear hb)) | (go_at_call 58; (with_reducible refine (spec_l01In.calls a2 0 256 true _ A16.out).mono ?_); rintro e w' ⟨rfl, ⟨nd, rfl⟩⟩) | (go_at_call 58; (with_reducible refine (spec_l01In.calls a3 0 256 false _ A18.out).mono ?_); rintro e w' ⟨rfl, ⟨nd, rfl⟩⟩))
     go_meet
     case rel => exact ⟨_, (true), rv, H', om, bk BK336, bk BK337, bk BK338, bk BK339, bh HB⟩
   ·replace c17 := Bool.eq_false_iff.mpr c17
    subst c17
    rw [if_neg nft] at H
    have H' := Aside0.mk H
    clear H
    have hnb49 := NB336_337.out
    have hnc49 := NB337_336.out
    have hnb50 := NB336_338.out
    have hnc50 := NB338_336.out
    have hnb51 := NB336_339.out
    have hnc51 := NB339_336.out
    obtain ⟨hcz52_0, hcz52_1, hcz52_2, hfz52_0, hfz52_1, hfz52_2⟩ := cl3 BK336
    go_wp2_with (first | ((with_reducible refine gate_callee (f := 65) rfl ?_); refine gL (some 28) Try.func65 #[.agg #[.int .i64 a0_0, .int .i64 a0_1, .string a0_2], .int .i64 a5, .int .i64 a6] ?_; (with_reducible refine (spec_l13Fits.calls a0_0 a0_1 a0_2 a5 a6 true _ A14.out).mono ?_); rintro e w53 ⟨rfl, hb⟩; refine ⟨_, rfl, ?_⟩; replace BK336 := bb BK336 hb; replace BK337 := bb BK337 hb; replace BK338 := bb BK338 hb; replace BK339 := bb BK339 hb; replace HB := bs HB hb; (try clear hb)) | (go_at_call 58; (with_reducible refine (spec_l01In.calls a2 0 256 false _ A16.out).mono ?_); rintro e w' ⟨rfl, ⟨nd, rfl⟩⟩))
    go_meet
    case rel => exact ⟨_, (true), rv, H', om, bk BK336, bk BK337, bk BK338, bk BK339, bh HB⟩
  ·replace c15 := Bool.eq_false_iff.mpr c15
   subst c15
   rw [if_neg nft] at H
   have H' := Aside0.mk H
   clear H
   have hnb54 := NB336_337.out
   have hnc54 := NB337_336.out
   have hnb55 := NB336_338.out
   have hnc55 := NB338_336.out
   have hnb56 := NB336_339.out
   have hnc56 := NB339_336.out
   obtain ⟨hcz57_0, hcz57_1, hcz57_2, hfz57_0, hfz57_1, hfz57_2⟩ := cl3 BK336
   go_wp2_with (first | ((with_reducible refine gate_callee (f := 65) rfl ?_); refine gL (some 28) Try.func65 #[.agg #[.int .i64 a0_0, .int .i64 a0_1, .string a0_2], .int .i64 a5, .int .i64 a6] ?_; (with_reducible refine (spec_l13Fits.calls a0_0 a0_1 a0_2 a5 a6 false _ A14.out).mono ?_); rintro e w58 ⟨rfl, hb⟩; refine ⟨_, rfl, ?_⟩; replace BK336 := bb BK336 hb; replace BK337 := bb BK337 hb; replace BK338 := bb BK338 hb; replace BK339 := bb BK339 hb; replace HB := bs HB hb; (try clear hb)))
   go_meet
   case rel => exact ⟨_, (true), rv, H', om, bk BK336, bk BK337, bk BK338, bk BK339, bh HB⟩
 case rest =>
  clear HC9
  try clear hcz26_0 hcz26_1 hcz26_2 hfz26_0 hfz26_1 hfz26_2
  try clear hcz30_0 hcz30_1 hcz30_2 hcz30_3 hcz30_4 hfz30_0 hfz30_1 hfz30_2 hfz30_3 hfz30_4
  try clear hcz33_0 hcz33_1 hcz33_2 hcz33_3 hfz33_0 hfz33_1 hfz33_2 hfz33_3
  try clear hcz38_0 hcz38_1 hcz38_2 hfz38_0 hfz38_1 hfz38_2
  try clear hcz42_0 hcz42_1 hcz42_2 hcz42_3 hcz42_4 hfz42_0 hfz42_1 hfz42_2 hfz42_3 hfz42_4
  try clear hcz47_0 hcz47_1 hcz47_2 hfz47_0 hfz47_1 hfz47_2
  try clear hcz52_0 hcz52_1 hcz52_2 hfz52_0 hfz52_1 hfz52_2
  try clear hcz57_0 hcz57_1 hcz57_2 hfz57_0 hfz57_1 hfz57_2
  obtain ⟨kq, x49_8, rfl, HA, HJ8, BK336, BK337, BK338, BK339, HB⟩ := hcut
  cases kq with
  | zero => exact absurd HA.out (by simp [spec_SquareDots.j0])
  | succ kj8 =>
   have H := HA.out
   clear HA
   simp only [spec_SquareDots.j0] at H
   by_cases c59 : x49_8 = true
   ·subst c59
    rw [if_pos rfl] at H
    obtain ⟨y345, hy345⟩ : ∃ y_ : List Int, y_ = (([] : List Int)) := ⟨_, rfl⟩
    replace H : (some (y345, false)) = some (r1, r2) := by subst hy345; exact H
    have Ny345 := Aside0.mk hy345
    clear hy345
    simp only [Option.some.injEq, Prod.mk.injEq] at H
    obtain ⟨rfl, rfl⟩ := H
    go_wp2_with (first | ((with_reducible refine gate_dst (N := 50) rfl ?_); refine Kd.R_lit (Kd.int .i64) _ 3 ?hg (N := 50) ?hd (xs := ([] : List Int)) (inner := []) (ok := fun _ => True) (okp := fun _ => True) ?hr ?hp (fun _ hk => hk) trivial (Below.refl _ _) (Nat.le_refl _) (by simp) ?_; (case hd => rfl); (case hg => rfl); (case hr => first | (go_simp; done) | (go_simp; rfl)); (case hp => exact (Reps.none _ _)); intro v346 w60 ho61 hb hg_ hnew_; clear hg_ hnew_; (first | rw [← Ny345.out] at ho61 | (simp only [Int.reduceToNat] at ho61; rw [← Ny345.out] at ho61)); have HO347 := Aside0.mk (Kd.R_lower ho61 (below_size (bo HB))); replace BK336 := bb BK336 hb; replace BK337 := bb BK337 hb; replace BK338 := bb BK338 hb; replace BK339 := bb BK339 hb; replace HB := bs HB hb; clear hb ho61))
    go_ret2
    exact ⟨_, re, ro HO347.out, bo HB⟩
   ·replace c59 := Bool.eq_false_iff.mpr c59
    subst c59
    rw [if_neg nft] at H
    by_cases c62 : a7_0 = 2
    ·rw [if_pos c62] at H
     obtain ⟨c62b0, c62b1⟩ := eqt c62
     clear c62
     replace H := bnd H
     obtain ⟨⟨t348, t351, t354, t355⟩, A63, H⟩ := H
     dsimp only at H
     replace H := bnd H
     obtain ⟨⟨t357, t360⟩, A64, H⟩ := H
     dsimp only at H
     replace H := bnd H
     obtain ⟨t361, A65, H⟩ := H
     replace H := bnd H
     obtain ⟨t364, A66, H⟩ := H
     simp only [Option.some.injEq, Prod.mk.injEq] at H
     obtain ⟨rfl, rfl⟩ := H
     have hnb67 := NB339_336.out
     have hnc67 := NB336_339.out
     have hnb68 := NB339_337.out
     have hnc68 := NB337_339.out
     have hnb69 := NB339_338.out
     have hnc69 := NB338_339.out
     obtain ⟨hcz70_0, hcz70_1, hcz70_2, hcz70_3, hcz70_4, hfz70_0, hfz70_1, hfz70_2, hfz70_3, hfz70_4⟩ := cl5 BK339
     have hnb71 := NB336_337.out
     have hnc71 := NB337_336.out
     have hnb72 := NB336_338.out
     have hnc72 := NB338_336.out
     obtain ⟨hcz73_0, hcz73_1, hcz73_2, hfz73_0, hfz73_1, hfz73_2⟩ := cl3 BK336
     go_wp2_with (first | ((with_reducible refine gate_callee (f := 67) rfl ?_); refine gL (some 58) Try.func67 #[.agg #[.int .i64 a0_0, .int .i64 a0_1, .string a0_2], .int .i64 a5, .int .i64 a6] ?_; (with_reducible refine (spec_EdgesOf.calls kj8 a0_0 a0_1 a0_2 a5 a6 t348 t351 t354 t355 _ A63.out).mono ?_); rintro e w74 ⟨v349, v352, rfl, ho0, ho1, hb⟩; refine ⟨_, rfl, ?_⟩; have HO350 := Aside0.mk (Kd.R_lower ho0 (below_size (bo HB))); have HO353 := Aside0.mk (Kd.R_lower ho1 (below_size (bo HB))); replace BK336 := bb BK336 hb; replace BK337 := bb BK337 hb; replace BK338 := bb BK338 hb; replace BK339 := bb BK339 hb; replace HB := bs HB hb; (try clear hb); (try clear ho0); (try clear ho1)) | ((with_reducible refine gate_dst (N := 18) rfl ?_); refine bx 18 #[.slice none 0 0, .slice none 0 0, .int .i64 0] 101 ?_; intro gb356 hg w75 BK356 hb; have GW356 := ge HB hg; have GE356 := ge HB hg; have NB336_356 := n1 BK336 hg; have NB356_336 := n2 BK336 hg; have NB337_356 := n1 BK337 hg; have NB356_337 := n2 BK337 hg; have NB338_356 := n1 BK338 hg; have NB356_338 := n2 BK338 hg; have NB339_356 := n1 BK339 hg; have NB356_339 := n2 BK339 hg; replace HO350 := Aside0.mk (Kd.R_below (ro HO350.out) hb); replace HO353 := Aside0.mk (Kd.R_below (ro HO353.out) hb); replace BK336 := bb BK336 hb; replace BK337 := bb BK337 hb; replace BK338 := bb BK338 hb; replace BK339 := bb BK339 hb; replace HB := bs HB hb; clear hb hg; obtain ⟨Ao76, co76, eo76⟩ := Kd.R_slice HO350.out; subst eo76; have hnb77 := NB356_336.out; have hnc77 := NB336_356.out; have hnb78 := NB356_337.out; have hnc78 := NB337_356.out; have hnb79 := NB356_338.out; have hnc79 := NB338_356.out; have hnb80 := NB356_339.out; have hnc80 := NB339_356.out; obtain ⟨hcz81_0, hcz81_1, hcz81_2, hfz81_0, hfz81_1, hfz81_2⟩ := cl3 BK356; obtain ⟨Ao82, co82, eo82⟩ := Kd.R_slice HO353.out; subst eo82; obtain ⟨hcz83_0, hcz83_1, hcz83_2, hcz83_3, hcz83_4, hfz83_0, hfz83_1, hfz83_2, hfz83_3, hfz83_4⟩ := cl5 BK339; have hnb84 := NB338_337.out; have hnc84 := NB337_338.out; obtain ⟨hcz85_0, hcz85_1, hcz85_2, hcz85_3, hfz85_0, hfz85_1, hfz85_2, hfz85_3⟩ := cl4 BK338) | ((with_reducible refine gate_callee (f := 68) rfl ?_); refine gL (some 65) Try.func68 #[.slice A7_4 l7_4.length c7_4, .agg #[.bool a4_0, .int .i64 a4_1, .bool a4_2, .bool a4_3]] ?_; (with_reducible refine (spec_LevelsBack.calls kj8 _ _ l7_4 a4_0 a4_1 a4_2 a4_3 t357 t360 _ ?side1 ?side2 A64.out).mono ?_); (case side1 => exact Kd.C_below HR7_4.out (bo HB)); (case side2 => exact HC7_4.out); rintro e w86 ⟨v358, rfl, ho0, hb⟩; refine ⟨_, rfl, ?_⟩; have HO359 := Aside0.mk (Kd.R_lower (Kd.R_new' (Kd.R_new' ho0 (Kd.R_lt (ro ((Kd.R_mono (Kd.R_far (p := ⟨gb356, 2, none⟩) (Kd.R_far (p := ⟨gb356, 1, none⟩) (Kd.R_far (p := ⟨gb356, 0, none⟩) (Kd.R_types HO350.out BK356.out (by decide)) (fun _ hk => hk.2) (.slice Ao76 t348.length co76)) (fun _ hk => hk.2) (.slice Ao82 t351.length co82)) (fun _ hk => hk.2) (.int .i64 t354)) (fun _ h_ => h_.1)))))) (Kd.R_lt (ro ((Kd.R_mono (Kd.R_far (p := ⟨gb356, 2, none⟩) (Kd.R_far (p := ⟨gb356, 1, none⟩) (Kd.R_far (p := ⟨gb356, 0, none⟩) (Kd.R_types HO353.out BK356.out (by decide)) (fun _ hk => hk.2) (.slice Ao76 t348.length co76)) (fun _ hk => hk.2) (.slice Ao82 t351.length co82)) (fun _ hk => hk.2) (.int .i64 t354)) (fun _ h_ => h_.1)))))) (below_size (bo HB))); replace HO350 := Aside0.mk (Kd.R_elder' (ro ((Kd.R_mono (Kd.R_far (p := ⟨gb356, 2, none⟩) (Kd.R_far (p := ⟨gb356, 1, none⟩) (Kd.R_far (p := ⟨gb356, 0, none⟩) (Kd.R_types HO350.out BK356.out (by decide)) (fun _ hk => hk.2) (.slice Ao76 t348.length co76)) (fun _ hk => hk.2) (.slice Ao82 t351.length co82)) (fun _ hk => hk.2) (.int .i64 t354)) (fun _ h_ => h_.1)))) (Kd.R_base ho0) hb); replace HO353 := Aside0.mk (Kd.R_elder' (ro ((Kd.R_mono (Kd.R_far (p := ⟨gb356, 2, none⟩) (Kd.R_far (p := ⟨gb356, 1, none⟩) (Kd.R_far (p := ⟨gb356, 0, none⟩) (Kd.R_types HO353.out BK356.out (by decide)) (fun _ hk => hk.2) (.slice Ao76 t348.length co76)) (fun _ hk => hk.2) (.slice Ao82 t351.length co82)) (fun _ hk => hk.2) (.int .i64 t354)) (fun _ h_ => h_.1)))) (Kd.R_base ho0) hb); replace BK336 := Aside0.mk (blk_below (g := gb336) (o := .cells #[.int .i64 a0_0, .int .i64 a0_1, .string a0_2] 25 (0, 0)) (by (with_reducible repeat (first | refine blk_drewN ?_ _ | refine blk_drew ?_ | refine blk_alloc ?_ _)); refine blk_far ?_ NB336_356.out _; (with_reducible repeat (first | refine blk_drewN ?_ _ | refine blk_drew ?_ | refine blk_alloc ?_ _)); refine blk_far ?_ NB336_356.out _; (with_reducible repeat (first | refine blk_drewN ?_ _ | refine blk_drew ?_ | refine blk_alloc ?_ _)); refine blk_far ?_ NB336_356.out _; (with_reducible repeat (first | refine blk_drewN ?_ _ | refine blk_drew ?_ | refine blk_alloc ?_ _)); exact BK336.out) hb); replace BK337 := Aside0.mk (blk_below (g := gb337) (o := .cells #[.int .i64 a1_0, .int .i64 a1_1, .string a1_2] 25 (0, 0)) (by (with_reducible repeat (first | refine blk_drewN ?_ _ | refine blk_drew ?_ | refine blk_alloc ?_ _)); refine blk_far ?_ NB337_356.out _; (with_reducible repeat (first | refine blk_drewN ?_ _ | refine blk_drew ?_ | refine blk_alloc ?_ _)); refine blk_far ?_ NB337_356.out _; (with_reducible repeat (first | refine blk_drewN ?_ _ | refine blk_drew ?_ | refine blk_alloc ?_ _)); refine blk_far ?_ NB337_356.out _; (with_reducible repeat (first | refine blk_drewN ?_ _ | refine blk_drew ?_ | refine blk_alloc ?_ _)); exact BK337.out) hb); replace BK338 := Aside0.mk (blk_below (g := gb338) (o := .cells #[.bool a4_0, .int .i64 a4_1, .bool a4_2, .bool a4_3] 50 (0, 0)) (by (with_reducible repeat (first | refine blk_drewN ?_ _ | refine blk_drew ?_ | refine blk_alloc ?_ _)); refine blk_far ?_ NB338_356.out _; (with_reducible repeat (first | refine blk_drewN ?_ _ | refine blk_drew ?_ | refine blk_alloc ?_ _)); refine blk_far ?_ NB338_356.out _; (with_reducible repeat (first | refine blk_drewN ?_ _ | refine blk_drew ?_ | refine blk_alloc ?_ _)); refine blk_far ?_ NB338_356.out _; (with_reducible repeat (first | refine blk_drewN ?_ _ | refine blk_drew ?_ | refine blk_alloc ?_ _)); exact BK338.out) hb); replace BK339 := Aside0.mk (blk_below (g := gb339) (o := .cells #[.int .i64 a7_0, .int .i64 a7_1, .int .i64 a7_2, .int .i64 a7_3, .slice A7_4 l7_4.length c7_4] 63 (0, 0)) (by (with_reducible repeat (first | refine blk_drewN ?_ _ | refine blk_drew ?_ | refine blk_alloc ?_ _)); refine blk_far ?_ NB339_356.out _; (with_reducible repeat (first | refine blk_drewN ?_ _ | refine blk_drew ?_ | refine blk_alloc ?_ _)); refine blk_far ?_ NB339_356.out _; (with_reducible repeat (first | refine blk_drewN ?_ _ | refine blk_drew ?_ | refine blk_alloc ?_ _)); refine blk_far ?_ NB339_356.out _; (with_reducible repeat (first | refine blk_drewN ?_ _ | refine blk_drew ?_ | refine blk_alloc ?_ _)); exact BK339.out) hb); replace BK356 := Aside0.mk (blk_below (g := gb356) (o := .cells #[.slice Ao76 t348.length co76, .slice Ao82 t351.length co82, .int .i64 t354] 101 (0, 0)) (by (with_reducible repeat (first | refine blk_drewN ?_ _ | refine blk_drew ?_ | refine blk_alloc ?_ _)); refine blk_put (cs := #[.slice Ao76 t348.length co76, .slice Ao82 t351.length co82, .int .i64 0]) ?_ 2 _ rfl; (with_reducible repeat (first | refine blk_drewN ?_ _ | refine blk_drew ?_ | refine blk_alloc ?_ _)); refine blk_put (cs := #[.slice Ao76 t348.length co76, .slice none 0 0, .int .i64 0]) ?_ 1 _ rfl; (with_reducible repeat (first | refine blk_drewN ?_ _ | refine blk_drew ?_ | refine blk_alloc ?_ _)); refine blk_put (cs := #[.slice none 0 0, .slice none 0 0, .int .i64 0]) ?_ 0 _ rfl; (with_reducible repeat (first | refine blk_drewN ?_ _ | refine blk_drew ?_ | refine blk_alloc ?_ _)); exact BK356.out) hb); replace HB := bs HB hb; (try clear hb); (try clear ho0); obtain ⟨hcz87_0, hcz87_1, hcz87_2, hcz87_3, hcz87_4, hfz87_0, hfz87_1, hfz87_2, hfz87_3, hfz87_4⟩ := cl5 BK339; obtain ⟨hcz88_0, hcz88_1, hcz88_2, hfz88_0, hfz88_1, hfz88_2⟩ := cl3 BK356) | ((with_reducible refine gate_callee (f := 70) rfl ?_); refine gL (some 71) Try.func70 #[.int .i64 a7_1, .agg #[.slice Ao76 t348.length co76, .slice Ao82 t351.length co82, .int .i64 t354]] ?_; (with_reducible refine (spec_GuessOf.calls kj8 a7_1 _ _ t348 _ _ t351 t354 t361 _ ?side1 ?side2 ?side3 ?side4 A65.out).mono ?_); (case side1 => exact ca ((Kd.R_reads' HO350.out).2.2)); (case side2 => exact (Kd.R_reads' HO350.out).2.1); (case side3 => exact ca ((Kd.R_reads' HO353.out).2.2)); (case side4 => exact (Kd.R_reads' HO353.out).2.1); rintro e w89 ⟨v362, rfl, ho0, hb⟩; refine ⟨_, rfl, ?_⟩; have HO363 := Aside0.mk (Kd.R_lower (Kd.R_new' (Kd.R_new' (Kd.R_new' ho0 (Kd.R_lt (ro HO350.out))) (Kd.R_lt (ro HO353.out))) (Kd.R_lt (ro HO359.out))) (below_size (bo HB))); replace HO350 := Aside0.mk (Kd.R_elder' (ro HO350.out) (Kd.R_base ho0) hb); replace HO353 := Aside0.mk (Kd.R_elder' (ro HO353.out) (Kd.R_base ho0) hb); replace HO359 := Aside0.mk (Kd.R_elder' (ro HO359.out) (Kd.R_base ho0) hb); replace BK336 := bb BK336 hb; replace BK337 := bb BK337 hb; replace BK338 := bb BK338 hb; replace BK339 := bb BK339 hb; replace BK356 := bb BK356 hb; replace HB := bs HB hb; (try clear hb); (try clear ho0); obtain ⟨Ao90, co90, eo90⟩ := Kd.R_slice HO363.out; subst eo90; obtain ⟨Ao91, co91, eo91⟩ := Kd.R_slice HO359.out; subst eo91) | ((with_reducible refine gate_callee (f := 69) rfl ?_); refine gL (some 73) Try.func69 #[.slice Ao90 t361.length co90, .slice Ao91 t357.length co91] ?_; (with_reducible refine (spec_Joined.calls kj8 _ _ t361 _ _ t357 t364 _ ?side1 ?side2 ?side3 ?side4 A66.out).mono ?_); (case side1 => exact ca ((Kd.R_reads' HO363.out).2.2)); (case side2 => exact (Kd.R_reads' HO363.out).2.1); (case side3 => exact ca ((Kd.R_reads' HO359.out).2.2)); (case side4 => exact (Kd.R_reads' HO359.out).2.1); rintro e w92 ⟨v365, rfl, ho0, hb⟩; refine ⟨_, rfl, ?_⟩; have HO366 := Aside0.mk (Kd.R_lower (Kd.R_new' (Kd.R_new' (Kd.R_new' (Kd.R_new' ho0 (Kd.R_lt (ro HO350.out))) (Kd.R_lt (ro HO353.out))) (Kd.R_lt (ro HO359.out))) (Kd.R_lt (ro HO363.out))) (below_size (bo HB))); replace HO350 := Aside0.mk (Kd.R_elder' (ro HO350.out) (Kd.R_base ho0) hb); replace HO353 := Aside0.mk (Kd.R_elder' (ro HO353.out) (Kd.R_base ho0) hb); replace HO359 := Aside0.mk (Kd.R_elder' (ro HO359.out) (Kd.R_base ho0) hb); replace HO363 := Aside0.mk (Kd.R_elder' (ro HO363.out) (Kd.R_base ho0) hb); replace BK336 := bb BK336 hb; replace BK337 := bb BK337 hb; replace BK338 := bb BK338 hb; replace BK339 := bb BK339 hb; replace BK356 := bb BK356 hb; replace HB := bs HB hb; (try clear hb); (try clear ho0)))
     go_ret2
     exact ⟨_, re, ro (Kd.R_mono HO366.out (fun _ hk => trivial)), bo HB⟩
    ·rw [if_neg c62] at H
     obtain ⟨c62b0, c62b1⟩ := eqf c62
     have HC93 := Aside0.mk H
     clear H
     have hnb94 := NB339_336.out
     have hnc94 := NB336_339.out
     have hnb95 := NB339_337.out
     have hnc95 := NB337_339.out
     have hnb96 := NB339_338.out
     have hnc96 := NB338_339.out
     obtain ⟨hcz97_0, hcz97_1, hcz97_2, hcz97_3, hcz97_4, hfz97_0, hfz97_1, hfz97_2, hfz97_3, hfz97_4⟩ := cl5 BK339
     go_upto_region 7 with (fail)
     go_cut [80] (fun v80 wc => ∃ (kq : Nat) (x80_92 : Bool), v80 = .bool x80_92 ∧ Aside0 (spec_SquareDots.j1 kq a2 a3 a5 a6 x80_92 a1_0 a1_1 a1_2 a4_0 a4_1 a4_2 a4_3 a7_0 a7_1 a7_2 a7_3 l7_4 = some (r1, r2)) ∧ Aside0 (kq ≤ kj8) ∧ Aside0 (wc.heap[gb336]? = some (.cells #[.int .i64 a0_0, .int .i64 a0_1, .string a0_2] 25 (0, 0))) ∧ Aside0 (wc.heap[gb337]? = some (.cells #[.int .i64 a1_0, .int .i64 a1_1, .string a1_2] 25 (0, 0))) ∧ Aside0 (wc.heap[gb338]? = some (.cells #[.bool a4_0, .int .i64 a4_1, .bool a4_2, .bool a4_3] 50 (0, 0))) ∧ Aside0 (wc.heap[gb339]? = some (.cells #[.int .i64 a7_0, .int .i64 a7_1, .int .i64 a7_2, .int .i64 a7_3, (.slice A7_4 l7_4.length c7_4)] 63 (0, 0))) ∧ Aside0 (Below w.heap.size w wc))
     case first =>
      have H := HC93.out
      clear HC93
      by_cases c98 : a4_0 = true
      ·subst c98
       rw [if_pos rfl] at H
       have H' := Aside0.mk H
       clear H
       have hnb99 := NB338_336.out
       have hnc99 := NB336_338.out
       have hnb100 := NB338_337.out
       have hnc100 := NB337_338.out
       have hnb101 := NB338_339.out
       have hnc101 := NB339_338.out
       obtain ⟨hcz102_0, hcz102_1, hcz102_2, hcz102_3, hfz102_0, hfz102_1, hfz102_2, hfz102_3⟩ := cl4 BK338
       go_wp2
       go_meet
       case rel => exact ⟨_, (true), rv, H', (om1 HJ8.out), bk BK336, bk BK337, bk BK338, bk BK339, bh HB⟩
      ·replace c98 := Bool.eq_false_iff.mpr c98
       subst c98
       rw [if_neg nft] at H
       replace H := bnd H
       obtain ⟨t367, A103, H⟩ := H
       have H' := Aside0.mk H
       clear H
       have hnb104 := NB338_336.out
       have hnc104 := NB336_338.out
       have hnb105 := NB338_337.out
       have hnc105 := NB337_338.out
       have hnb106 := NB338_339.out
       have hnc106 := NB339_338.out
       obtain ⟨hcz107_0, hcz107_1, hcz107_2, hcz107_3, hfz107_0, hfz107_1, hfz107_2, hfz107_3⟩ := cl4 BK338
       have hnb108 := NB337_336.out
       have hnc108 := NB336_337.out
       have hnb109 := NB337_339.out
       have hnc109 := NB339_337.out
       obtain ⟨hcz110_0, hcz110_1, hcz110_2, hfz110_0, hfz110_1, hfz110_2⟩ := cl3 BK337
       go_wp2_with (first | (go_at_call 41; (with_reducible refine (spec_PicOk.calls a1_0 a1_1 a1_2 t367 _ A103.out).mono ?_); rintro e w111 ⟨rfl, hb⟩; replace BK336 := bb BK336 hb; replace BK337 := bb BK337 hb; replace BK338 := bb BK338 hb; replace BK339 := bb BK339 hb; replace HB := bs HB hb; (try clear hb)))
       go_meet
       case rel => exact ⟨_, (!t367), rv, H', (om1 HJ8.out), bk BK336, bk BK337, bk BK338, bk BK339, bh HB⟩
     case rest =>
      clear HC93
      try clear hcz102_0 hcz102_1 hcz102_2 hcz102_3 hfz102_0 hfz102_1 hfz102_2 hfz102_3
      try clear hcz107_0 hcz107_1 hcz107_2 hcz107_3 hfz107_0 hfz107_1 hfz107_2 hfz107_3
      try clear hcz110_0 hcz110_1 hcz110_2 hfz110_0 hfz110_1 hfz110_2
      try clear hcz26_0 hcz26_1 hcz26_2 hfz26_0 hfz26_1 hfz26_2
      try clear hcz30_0 hcz30_1 hcz30_2 hcz30_3 hcz30_4 hfz30_0 hfz30_1 hfz30_2 hfz30_3 hfz30_4
      try clear hcz33_0 hcz33_1 hcz33_2 hcz33_3 hfz33_0 hfz33_1 hfz33_2 hfz33_3
      try clear hcz38_0 hcz38_1 hcz38_2 hfz38_0 hfz38_1 hfz38_2
      try clear hcz42_0 hcz42_1 hcz42_2 hcz42_3 hcz42_4 hfz42_0 hfz42_1 hfz42_2 hfz42_3 hfz42_4
      try clear hcz47_0 hcz47_1 hcz47_2 hfz47_0 hfz47_1 hfz47_2
      try clear hcz52_0 hcz52_1 hcz52_2 hfz52_0 hfz52_1 hfz52_2
      try clear hcz57_0 hcz57_1 hcz57_2 hfz57_0 hfz57_1 hfz57_2
      try clear hcz70_0 hcz70_1 hcz70_2 hcz70_3 hcz70_4 hfz70_0 hfz70_1 hfz70_2 hfz70_3 hfz70_4
      try clear hcz73_0 hcz73_1 hcz73_2 hfz73_0 hfz73_1 hfz73_2
      try clear hcz81_0 hcz81_1 hcz81_2 hfz81_0 hfz81_1 hfz81_2
      try clear hcz83_0 hcz83_1 hcz83_2 hcz83_3 hcz83_4 hfz83_0 hfz83_1 hfz83_2 hfz83_3 hfz83_4
      try clear hcz85_0 hcz85_1 hcz85_2 hcz85_3 hfz85_0 hfz85_1 hfz85_2 hfz85_3
      try clear hcz87_0 hcz87_1 hcz87_2 hcz87_3 hcz87_4 hfz87_0 hfz87_1 hfz87_2 hfz87_3 hfz87_4
      try clear hcz88_0 hcz88_1 hcz88_2 hfz88_0 hfz88_1 hfz88_2
      try clear hcz97_0 hcz97_1 hcz97_2 hcz97_3 hcz97_4 hfz97_0 hfz97_1 hfz97_2 hfz97_3 hfz97_4
      obtain ⟨kq, x80_92, rfl, HA, HJ92, BK336, BK337, BK338, BK339, HB⟩ := hcut
      cases kq with
      | zero => exact absurd HA.out (by simp [spec_SquareDots.j1])
      | succ kj92 =>
       have H := HA.out
       clear HA
       simp only [spec_SquareDots.j1] at H
       by_cases c112 : x80_92 = true
       ·subst c112
        rw [if_pos rfl] at H
        obtain ⟨y368, hy368⟩ : ∃ y_ : List Int, y_ = (([] : List Int)) := ⟨_, rfl⟩
        replace H : (some (y368, false)) = some (r1, r2) := by subst hy368; exact H
        have Ny368 := Aside0.mk hy368
        clear hy368
        simp only [Option.some.injEq, Prod.mk.injEq] at H
        obtain ⟨rfl, rfl⟩ := H
        go_wp2_with (first | ((with_reducible refine gate_dst (N := 81) rfl ?_); refine Kd.R_lit (Kd.int .i64) _ 3 ?hg (N := 81) ?hd (xs := ([] : List Int)) (inner := []) (ok := fun _ => True) (okp := fun _ => True) ?hr ?hp (fun _ hk => hk) trivial (Below.refl _ _) (Nat.le_refl _) (by simp) ?_; (case hd => rfl); (case hg => rfl); (case hr => first | (go_simp; done) | (go_simp; rfl)); (case hp => exact (Reps.none _ _)); intro v369 w113 ho114 hb hg_ hnew_; clear hg_ hnew_; (first | rw [← Ny368.out] at ho114 | (simp only [Int.reduceToNat] at ho114; rw [← Ny368.out] at ho114)); have HO370 := Aside0.mk (Kd.R_lower ho114 (below_size (bo HB))); replace BK336 := bb BK336 hb; replace BK337 := bb BK337 hb; replace BK338 := bb BK338 hb; replace BK339 := bb BK339 hb; replace HB := bs HB hb; clear hb ho114))
        go_ret2
        exact ⟨_, re, ro HO370.out, bo HB⟩
       ·replace c112 := Bool.eq_false_iff.mpr c112
        subst c112
        rw [if_neg nft] at H
        replace H := bnd H
        obtain ⟨t371, A115, H⟩ := H
        by_cases c116 : a7_0 = 0
        ·rw [if_pos c116] at H
         obtain ⟨c116b0, c116b1⟩ := eqt c116
         clear c116
         simp only [Option.some.injEq, Prod.mk.injEq] at H
         obtain ⟨rfl, rfl⟩ := H
         have hnb117 := NB337_336.out
         have hnc117 := NB336_337.out
         have hnb118 := NB337_338.out
         have hnc118 := NB338_337.out
         have hnb119 := NB337_339.out
         have hnc119 := NB339_337.out
         obtain ⟨hcz120_0, hcz120_1, hcz120_2, hfz120_0, hfz120_1, hfz120_2⟩ := cl3 BK337
         have hnb121 := NB339_336.out
         have hnc121 := NB336_339.out
         have hnb122 := NB339_338.out
         have hnc122 := NB338_339.out
         obtain ⟨hcz123_0, hcz123_1, hcz123_2, hcz123_3, hcz123_4, hfz123_0, hfz123_1, hfz123_2, hfz123_3, hfz123_4⟩ := cl5 BK339
         go_wp2_with (first | ((with_reducible refine gate_callee (f := 71) rfl ?_); refine gL (some 95) Try.func71 #[.agg #[.int .i64 a1_0, .int .i64 a1_1, .string a1_2], .int .i64 (wrap64 ((wrap64 (a2 + a5)) + a7_2)), .int .i64 (wrap64 ((wrap64 (a3 + a6)) + a7_3))] ?_ (hargs := (by (try simp only [List.map_toArray, List.map_cons, List.map_nil]); first | done | rfl | (rw [show (wrap64 ((wrap64 (a2 + a5)) + a7_2)) = ((wrap64 (a2 + a5)) + a7_2) from by unfold wrap64; omega, show (wrap64 ((wrap64 (a3 + a6)) + a7_3)) = ((wrap64 (a3 + a6)) + a7_3) from by unfold wrap64; omega]; rfl) | (simp only [List.length_drop, List.length_take]; rfl))); (with_reducible refine (spec_BlockOf.calls kj92 a1_0 a1_1 a1_2 (wrap64 ((wrap64 (a2 + a5)) + a7_2)) (wrap64 ((wrap64 (a3 + a6)) + a7_3)) t371 _ A115.out).mono ?_); rintro e w124 ⟨v372, rfl, ho0, hb⟩; refine ⟨_, rfl, ?_⟩; have HO373 := Aside0.mk (Kd.R_lower ho0 (below_size (bo HB))); replace BK336 := bb BK336 hb; replace BK337 := bb BK337 hb; replace BK338 := bb BK338 hb; replace BK339 := bb BK339 hb; replace HB := bs HB hb; (try clear hb); (try clear ho0); obtain ⟨hcz125_0, hcz125_1, hcz125_2, hcz125_3, hcz125_4, hfz125_0, hfz125_1, hfz125_2, hfz125_3, hfz125_4⟩ := cl5 BK339))
         go_ret2
         exact ⟨_, re, ro HO373.out, bo HB⟩
        ·rw [if_neg c116] at H
         obtain ⟨c116b0, c116b1⟩ := eqf c116
         replace H := bnd H
         obtain ⟨⟨t374, t377⟩, A126, H⟩ := H
         dsimp only at H
         replace H := bnd H
         obtain ⟨t378, A127, H⟩ := H
         simp only [Option.some.injEq, Prod.mk.injEq] at H
         obtain ⟨rfl, rfl⟩ := H
         have hnb128 := NB337_336.out
         have hnc128 := NB336_337.out
         have hnb129 := NB337_338.out
         have hnc129 := NB338_337.out
         have hnb130 := NB337_339.out
         have hnc130 := NB339_337.out
         obtain ⟨hcz131_0, hcz131_1, hcz131_2, hfz131_0, hfz131_1, hfz131_2⟩ := cl3 BK337
         have hnb132 := NB339_336.out
         have hnc132 := NB336_339.out
         have hnb133 := NB339_338.out
         have hnc133 := NB338_339.out
         obtain ⟨hcz134_0, hcz134_1, hcz134_2, hcz134_3, hcz134_4, hfz134_0, hfz134_1, hfz134_2, hfz134_3, hfz134_4⟩ := cl5 BK339
         go_wp2_with (first | ((with_reducible refine gate_callee (f := 71) rfl ?_); refine gL (some 95) Try.func71 #[.agg #[.int .i64 a1_0, .int .i64 a1_1, .string a1_2], .int .i64 (wrap64 ((wrap64 (a2 + a5)) + a7_2)), .int .i64 (wrap64 ((wrap64 (a3 + a6)) + a7_3))] ?_ (hargs := (by (try simp only [List.map_toArray, List.map_cons, List.map_nil]); first | done | rfl | (rw [show (wrap64 ((wrap64 (a2 + a5)) + a7_2)) = ((wrap64 (a2 + a5)) + a7_2) from by unfold wrap64; omega, show (wrap64 ((wrap64 (a3 + a6)) + a7_3)) = ((wrap64 (a3 + a6)) + a7_3) from by unfold wrap64; omega]; rfl) | (simp only [List.length_drop, List.length_take]; rfl))); (with_reducible refine (spec_BlockOf.calls kj92 a1_0 a1_1 a1_2 (wrap64 ((wrap64 (a2 + a5)) + a7_2)) (wrap64 ((wrap64 (a3 + a6)) + a7_3)) t371 _ A115.out).mono ?_); rintro e w135 ⟨v372, rfl, ho0, hb⟩; refine ⟨_, rfl, ?_⟩; have HO373 := Aside0.mk (Kd.R_lower ho0 (below_size (bo HB))); replace BK336 := bb BK336 hb; replace BK337 := bb BK337 hb; replace BK338 := bb BK338 hb; replace BK339 := bb BK339 hb; replace HB := bs HB hb; (try clear hb); (try clear ho0); obtain ⟨hcz136_0, hcz136_1, hcz136_2, hcz136_3, hcz136_4, hfz136_0, hfz136_1, hfz136_2, hfz136_3, hfz136_4⟩ := cl5 BK339; have hnb137 := NB338_336.out; have hnc137 := NB336_338.out; obtain ⟨hcz138_0, hcz138_1, hcz138_2, hcz138_3, hfz138_0, hfz138_1, hfz138_2, hfz138_3⟩ := cl4 BK338) | ((with_reducible refine gate_callee (f := 68) rfl ?_); refine gL (some 104) Try.func68 #[.slice A7_4 l7_4.length c7_4, .agg #[.bool a4_0, .int .i64 a4_1, .bool a4_2, .bool a4_3]] ?_; (with_reducible refine (spec_LevelsBack.calls kj92 _ _ l7_4 a4_0 a4_1 a4_2 a4_3 t374 t377 _ ?side1 ?side2 A126.out).mono ?_); (case side1 => exact ca (Kd.C_below HR7_4.out HB.out)); (case side2 => exact HC7_4.out); rintro e w139 ⟨v375, rfl, ho0, hb⟩; refine ⟨_, rfl, ?_⟩; have HO376 := Aside0.mk (Kd.R_lower (Kd.R_new' ho0 (Kd.R_lt (ro HO373.out))) (below_size (bo HB))); replace HO373 := Aside0.mk (Kd.R_elder' (ro HO373.out) (Kd.R_base ho0) hb); replace BK336 := bb BK336 hb; replace BK337 := bb BK337 hb; replace BK338 := bb BK338 hb; replace BK339 := bb BK339 hb; replace HB := bs HB hb; (try clear hb); (try clear ho0); obtain ⟨Ao140, co140, eo140⟩ := Kd.R_slice HO373.out; subst eo140; obtain ⟨Ao141, co141, eo141⟩ := Kd.R_slice HO376.out; subst eo141) | ((with_reducible refine gate_callee (f := 69) rfl ?_); refine gL (some 109) Try.func69 #[.slice Ao140 t371.length co140, .slice Ao141 t374.length co141] ?_; (with_reducible refine (spec_Joined.calls kj92 _ _ t371 _ _ t374 t378 _ ?side1 ?side2 ?side3 ?side4 A127.out).mono ?_); (case side1 => exact ca ((Kd.R_reads' HO373.out).2.2)); (case side2 => exact (Kd.R_reads' HO373.out).2.1); (case side3 => exact ca ((Kd.R_reads' HO376.out).2.2)); (case side4 => exact (Kd.R_reads' HO376.out).2.1); rintro e w142 ⟨v379, rfl, ho0, hb⟩; refine ⟨_, rfl, ?_⟩; have HO380 := Aside0.mk (Kd.R_lower (Kd.R_new' (Kd.R_new' ho0 (Kd.R_lt (ro HO373.out))) (Kd.R_lt (ro HO376.out))) (below_size (bo HB))); replace HO373 := Aside0.mk (Kd.R_elder' (ro HO373.out) (Kd.R_base ho0) hb); replace HO376 := Aside0.mk (Kd.R_elder' (ro HO376.out) (Kd.R_base ho0) hb); replace BK336 := bb BK336 hb; replace BK337 := bb BK337 hb; replace BK338 := bb BK338 hb; replace BK339 := bb BK339 hb; replace HB := bs HB hb; (try clear hb); (try clear ho0)))
         go_ret2
         exact ⟨_, re, ro (Kd.R_mono HO380.out (fun _ hk => trivial)), bo HB⟩

end Go.Proofs.Ytnaccgommclhaaa.QFnExactSquareDots
