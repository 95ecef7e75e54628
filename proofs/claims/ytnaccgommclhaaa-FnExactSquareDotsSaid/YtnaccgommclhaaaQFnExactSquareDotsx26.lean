/- What the law reaches, as plain functions, each with the proof that its call comes to its answer: written by a program for this claim. -/
import Derived.Test.YtnaccgommclhaaaQFnExactSquareDotsx0
import Derived.Test.YtnaccgommclhaaaQFnExactSquareDotsx14
import Derived.Test.YtnaccgommclhaaaQFnExactSquareDotsx15
import Derived.Test.YtnaccgommclhaaaQFnExactSquareDotsx21
import Derived.Test.YtnaccgommclhaaaQFnExactSquareDotsx22
import Derived.Test.YtnaccgommclhaaaQFnExactSquareDotsx23
import Derived.Test.YtnaccgommclhaaaQFnExactSquareDotsx25
import Derived.Test.YtnaccgommclhaaaUFnExactSquareDotsV5
namespace Go.Proofs.Ytnaccgommclhaaa.QFnExactSquareDots
open Go.RowKit Go.Proofs.YtnaccgommclhaaaW.PrintWords Go.Proofs.YtnaccgommclhaaaW.PrintLast Go.Proofs.YtnaccgommclhaaaW.PrintMore Go.Proofs.YtnaccgommclhaaaV
attribute [local go_sem] max2_int min2_int max_two min_two max_three min_three max_four min_four   -- for this text's walks alone
set_option linter.unusedVariables false
set_option linter.unusedSimpArgs false
set_option maxHeartbeats 8000000
set_option maxRecDepth 100000

def impl_SquareDots.j0 : Nat → Int → Int → Int → Int → Bool → Int → Int → ByteArray → Int → Int → ByteArray → Bool → Int → Bool → Bool → Int → Int → Int → Int → List Int → Option (List Int × Bool)
 | 0, _, _, _, _, _, _, _, _, _, _, _, _, _, _, _, _, _, _, _, _ => none
 | k + 1, x2, x3, x5, x6, x67, x606000, x606001, x606002, x607000, x607001, x607002, x608000, x608001, x608002, x608003, x609000, x609001, x609002, x609003, x609004 => if x67 = true then (some ((([] : List Int)), false)) else (if x609000 = 0 then ((impl_Pic_block.f k x607000 x607001 x607002 (wrap64 (x2 + x5)) (wrap64 (x3 + x6))).bind fun t620 => (some (t620, true))) else ((impl_LevelsBack.f k x609004 x608000 x608001 x608002 x608003).bind fun bt623 => (if x609000 = 1 then ((impl_Pic_block.f k x607000 x607001 x607002 (wrap64 ((wrap64 (x2 + x5)) + x609002)) (wrap64 ((wrap64 (x3 + x6)) + x609003))).bind fun t627 => ((impl_Joined.f k t627 bt623.1).bind fun t630 => (some (t630, true)))) else ((impl_EdgesOf.f k x606000 x606001 x606002 x5 x6).bind fun bt633 => ((impl_GuessOf.f k x609001 bt633.1 bt633.2.1 bt633.2.2.1).bind fun t642 => ((impl_Joined.f k t642 bt623.1).bind fun t645 => (some (t645, true))))))))
def impl_SquareDots.f (k : Nat) (a0_0 : Int) (a0_1 : Int) (a0_2 : ByteArray) (a1_0 : Int) (a1_1 : Int) (a1_2 : ByteArray) (a2 : Int) (a3 : Int) (a4_0 : Bool) (a4_1 : Int) (a4_2 : Bool) (a4_3 : Bool) (a5 : Int) (a6 : Int) (a7_0 : Int) (a7_1 : Int) (a7_2 : Int) (a7_3 : Int) (l7_4 : List Int) : Option (List Int × Bool) := (impl_PicOk.f a0_0 a0_1 a0_2).bind fun t609 => (if t609 = true then ((impl_Pic_isSquare.f a0_0 a0_1 a0_2 a5 a6).bind fun t610 => (if t610 = true then ((impl_within.f a2 0 256).bind fun t611 => (if t611 = true then ((impl_within.f a3 0 256).bind fun t612 => (if t612 = true then ((impl_SquareOk.f k a7_0 a7_1 a7_2 a7_3 l7_4).bind fun t613 => (if t613 = true then ((impl_CondOk.f a4_0 a4_1 a4_2 a4_3).bind fun t614 => (if t614 = true then ((impl_Square_let.f a7_0 a7_1 a7_2 a7_3 l7_4 a4_0 a4_1 a4_2 a4_3).bind fun t615 => (if t615 = true then (if a7_0 = 2 then (impl_SquareDots.j0 k a2 a3 a5 a6 false a0_0 a0_1 a0_2 a1_0 a1_1 a1_2 a4_0 a4_1 a4_2 a4_3 a7_0 a7_1 a7_2 a7_3 l7_4) else ((impl_PicOk.f a1_0 a1_1 a1_2).bind fun t616 => (impl_SquareDots.j0 k a2 a3 a5 a6 (!t616) a0_0 a0_1 a0_2 a1_0 a1_1 a1_2 a4_0 a4_1 a4_2 a4_3 a7_0 a7_1 a7_2 a7_3 l7_4))) else (impl_SquareDots.j0 k a2 a3 a5 a6 true a0_0 a0_1 a0_2 a1_0 a1_1 a1_2 a4_0 a4_1 a4_2 a4_3 a7_0 a7_1 a7_2 a7_3 l7_4))) else (impl_SquareDots.j0 k a2 a3 a5 a6 true a0_0 a0_1 a0_2 a1_0 a1_1 a1_2 a4_0 a4_1 a4_2 a4_3 a7_0 a7_1 a7_2 a7_3 l7_4))) else (impl_SquareDots.j0 k a2 a3 a5 a6 true a0_0 a0_1 a0_2 a1_0 a1_1 a1_2 a4_0 a4_1 a4_2 a4_3 a7_0 a7_1 a7_2 a7_3 l7_4))) else (impl_SquareDots.j0 k a2 a3 a5 a6 true a0_0 a0_1 a0_2 a1_0 a1_1 a1_2 a4_0 a4_1 a4_2 a4_3 a7_0 a7_1 a7_2 a7_3 l7_4))) else (impl_SquareDots.j0 k a2 a3 a5 a6 true a0_0 a0_1 a0_2 a1_0 a1_1 a1_2 a4_0 a4_1 a4_2 a4_3 a7_0 a7_1 a7_2 a7_3 l7_4))) else (impl_SquareDots.j0 k a2 a3 a5 a6 true a0_0 a0_1 a0_2 a1_0 a1_1 a1_2 a4_0 a4_1 a4_2 a4_3 a7_0 a7_1 a7_2 a7_3 l7_4))) else (impl_SquareDots.j0 k a2 a3 a5 a6 true a0_0 a0_1 a0_2 a1_0 a1_1 a1_2 a4_0 a4_1 a4_2 a4_3 a7_0 a7_1 a7_2 a7_3 l7_4))
theorem impl_SquareDots.calls (k : Nat) (a0_0 : Int) (a0_1 : Int) (a0_2 : ByteArray) (a1_0 : Int) (a1_1 : Int) (a1_2 : ByteArray) (a2 : Int) (a3 : Int) (a4_0 : Bool) (a4_1 : Int) (a4_2 : Bool) (a4_3 : Bool) (a5 : Int) (a6 : Int) (a7_0 : Int) (a7_1 : Int) (a7_2 : Int) (a7_3 : Int) (A7_4 : Option Addr) (c7_4 : Nat) (l7_4 : List Int) (r1 : List Int) (r2 : Bool) (w : World) (hr7_4 : Kd.C (Kd.int .i64) w A7_4 l7_4.length l7_4) (hc7_4 : l7_4.length ≤ c7_4) (h : impl_SquareDots.f k a0_0 a0_1 a0_2 a1_0 a1_1 a1_2 a2 a3 a4_0 a4_1 a4_2 a4_3 a5 a6 a7_0 a7_1 a7_2 a7_3 l7_4 = some (r1, r2)) :
  Calls Try.prog 33 #[.agg #[.int .i64 a0_0, .int .i64 a0_1, .string a0_2], .agg #[.int .i64 a1_0, .int .i64 a1_1, .string a1_2], .int .i64 a2, .int .i64 a3, .agg #[.bool a4_0, .int .i64 a4_1, .bool a4_2, .bool a4_3], .int .i64 a5, .int .i64 a6, .agg #[.int .i64 a7_0, .int .i64 a7_1, .int .i64 a7_2, .int .i64 a7_3, .slice A7_4 l7_4.length c7_4]] w fun e w' => ∃ v0_ : Value, e = .returned (.tuple #[v0_, .bool r2]) ∧ Kd.R (Kd.int .i64) 3 w' w.heap.size (fun _ => True) v0_ r1 ∧ Below w.heap.size w w' := by
 have hu25 := Try.underlying25
 have hu50 := Try.underlying50
 have hu63 := Try.underlying63
 have hu101 := Try.underlying101
 have HR7_4 := Aside0.mk hr7_4
 have HC7_4 := Aside0.mk hc7_4
 clear hr7_4 hc7_4
 have HB := Aside0.mk (Below.refl w.heap.size w)
 have H := h
 clear h
 unfold impl_SquareDots.f at H
 have HC9 := Aside0.mk H
 clear H
 go_enter Try.func33, Try.ntmps33
 go_upto_region 1 with (first | ((with_reducible refine gate_dst (N := 8) rfl ?_); refine bx 8 #[.int .i64 a0_0, .int .i64 a0_1, .string a0_2] 25 ?_; intro gb605 hg w10 BK605 hb; have GW605 := ge HB hg; have GE605 := ge HB hg; replace HB := bs HB hb; clear hb hg) | ((with_reducible refine gate_dst (N := 9) rfl ?_); refine bx 9 #[.int .i64 a1_0, .int .i64 a1_1, .string a1_2] 25 ?_; intro gb606 hg w11 BK606 hb; have GW606 := ge HB hg; have GE606 := ge HB hg; have NB605_606 := n1 BK605 hg; have NB606_605 := n2 BK605 hg; replace BK605 := bb BK605 hb; replace HB := bs HB hb; clear hb hg) | ((with_reducible refine gate_dst (N := 12) rfl ?_); refine bx 12 #[.bool a4_0, .int .i64 a4_1, .bool a4_2, .bool a4_3] 50 ?_; intro gb607 hg w12 BK607 hb; have GW607 := ge HB hg; have GE607 := ge HB hg; have NB605_607 := n1 BK605 hg; have NB607_605 := n2 BK605 hg; have NB606_607 := n1 BK606 hg; have NB607_606 := n2 BK606 hg; replace BK605 := bb BK605 hb; replace BK606 := bb BK606 hb; replace HB := bs HB hb; clear hb hg) | ((with_reducible refine gate_dst (N := 15) rfl ?_); refine bx 15 #[.int .i64 a7_0, .int .i64 a7_1, .int .i64 a7_2, .int .i64 a7_3, .slice A7_4 l7_4.length c7_4] 63 ?_; intro gb608 hg w13 BK608 hb; have GW608 := ge HB hg; have GE608 := ge HB hg; have NB605_608 := n1 BK605 hg; have NB608_605 := n2 BK605 hg; have NB606_608 := n1 BK606 hg; have NB608_606 := n2 BK606 hg; have NB607_608 := n1 BK607 hg; have NB608_607 := n2 BK607 hg; replace BK605 := bb BK605 hb; replace BK606 := bb BK606 hb; replace BK607 := bb BK607 hb; replace HB := bs HB hb; clear hb hg))
 (try simp only [Act.put, List.setIfInBounds_toArray, List.set_cons_zero, List.set_cons_succ])
 go_cut [67] (fun v67 wc => ∃ (kq : Nat) (x67_8 : Bool), v67 = .bool x67_8 ∧ Aside0 (impl_SquareDots.j0 kq a2 a3 a5 a6 x67_8 a0_0 a0_1 a0_2 a1_0 a1_1 a1_2 a4_0 a4_1 a4_2 a4_3 a7_0 a7_1 a7_2 a7_3 l7_4 = some (r1, r2)) ∧ Aside0 (kq ≤ k) ∧ Aside0 (wc.heap[gb605]? = some (.cells #[.int .i64 a0_0, .int .i64 a0_1, .string a0_2] 25 (0, 0))) ∧ Aside0 (wc.heap[gb606]? = some (.cells #[.int .i64 a1_0, .int .i64 a1_1, .string a1_2] 25 (0, 0))) ∧ Aside0 (wc.heap[gb607]? = some (.cells #[.bool a4_0, .int .i64 a4_1, .bool a4_2, .bool a4_3] 50 (0, 0))) ∧ Aside0 (wc.heap[gb608]? = some (.cells #[.int .i64 a7_0, .int .i64 a7_1, .int .i64 a7_2, .int .i64 a7_3, (.slice A7_4 l7_4.length c7_4)] 63 (0, 0))) ∧ Aside0 (Below w.heap.size w wc))
 case first =>
  have H := HC9.out
  clear HC9
  replace H := bnd H
  obtain ⟨t609, A14, H⟩ := H
  by_cases c15 : t609 = true
  ·subst c15
   rw [if_pos rfl] at H
   replace H := bnd H
   obtain ⟨t610, A16, H⟩ := H
   by_cases c17 : t610 = true
   ·subst c17
    rw [if_pos rfl] at H
    replace H := bnd H
    obtain ⟨t611, A18, H⟩ := H
    by_cases c19 : t611 = true
    ·subst c19
     rw [if_pos rfl] at H
     replace H := bnd H
     obtain ⟨t612, A20, H⟩ := H
     by_cases c21 : t612 = true
     ·subst c21
      rw [if_pos rfl] at H
      replace H := bnd H
      obtain ⟨t613, A22, H⟩ := H
      by_cases c23 : t613 = true
      ·subst c23
       rw [if_pos rfl] at H
       replace H := bnd H
       obtain ⟨t614, A24, H⟩ := H
       by_cases c25 : t614 = true
       ·subst c25
        rw [if_pos rfl] at H
        replace H := bnd H
        obtain ⟨t615, A26, H⟩ := H
        by_cases c27 : t615 = true
        ·subst c27
         rw [if_pos rfl] at H
         by_cases c28 : a7_0 = 2
         ·rw [if_pos c28] at H
          obtain ⟨c28b0, c28b1⟩ := eqt c28
          clear c28
          (first | rw [c28b0] | (simp only [i64_w, i32_w]; rw [c28b0]) | skip)
          have H' := Aside0.mk H
          clear H
          have hnb29 := NB605_606.out
          have hnc29 := NB606_605.out
          have hnb30 := NB605_607.out
          have hnc30 := NB607_605.out
          have hnb31 := NB605_608.out
          have hnc31 := NB608_605.out
          obtain ⟨hcz32_0, hcz32_1, hcz32_2, hfz32_0, hfz32_1, hfz32_2⟩ := cl3 BK605
          go_wp2_with (first | ((with_reducible refine gate_callee (f := 43) rfl ?_); refine gL (some 23) Try.func43 #[.agg #[.int .i64 a0_0, .int .i64 a0_1, .string a0_2]] ?_; (with_reducible refine (impl_PicOk.calls a0_0 a0_1 a0_2 true _ A14.out).mono ?_); rintro e w33 ⟨rfl, hb⟩; refine ⟨_, rfl, ?_⟩; replace BK605 := bb BK605 hb; replace BK606 := bb BK606 hb; replace BK607 := bb BK607 hb; replace BK608 := bb BK608 hb; replace HB := bs HB hb; (try clear hb); obtain ⟨hcz34_0, hcz34_1, hcz34_2, hfz34_0, hfz34_1, hfz34_2⟩ := cl3 BK605) | (go_at_call 73; (with_reducible refine (impl_Pic_isSquare.calls a0_0 a0_1 a0_2 a5 a6 true _ A16.out).mono ?_); rintro e w35 ⟨rfl, hb⟩; replace BK605 := bb BK605 hb; replace BK606 := bb BK606 hb; replace BK607 := bb BK607 hb; replace BK608 := bb BK608 hb; replace HB := bs HB hb; (try clear hb)) | (go_at_call 55; (with_reducible refine (impl_within.calls a2 0 256 true _ A18.out).mono ?_); rintro e w' ⟨rfl, ⟨nd, rfl⟩⟩) | (go_at_call 55; (with_reducible refine (impl_within.calls a3 0 256 true _ A20.out).mono ?_); rintro e w' ⟨rfl, ⟨nd, rfl⟩⟩; have hnb36 := NB608_606.out; have hnc36 := NB606_608.out; have hnb37 := NB608_607.out; have hnc37 := NB607_608.out; obtain ⟨hcz38_0, hcz38_1, hcz38_2, hcz38_3, hcz38_4, hfz38_0, hfz38_1, hfz38_2, hfz38_3, hfz38_4⟩ := cl5 BK608) | (go_at_call 74; (with_reducible refine (impl_SquareOk.calls k a7_0 a7_1 a7_2 a7_3 _ _ l7_4 true _ ?side1 ?side2 A22.out).mono ?_); (case side1 => exact ca (Kd.C_below HR7_4.out (bo HB))); (case side2 => exact HC7_4.out); rintro e w39 ⟨rfl, hb⟩; replace BK605 := bb BK605 hb; replace BK606 := bb BK606 hb; replace BK607 := bb BK607 hb; replace BK608 := bb BK608 hb; replace HB := bs HB hb; (try clear hb); have hnb40 := NB607_606.out; have hnc40 := NB606_607.out; obtain ⟨hcz41_0, hcz41_1, hcz41_2, hcz41_3, hfz41_0, hfz41_1, hfz41_2, hfz41_3⟩ := cl4 BK607) | (go_at_call 62; (with_reducible refine (impl_CondOk.calls a4_0 a4_1 a4_2 a4_3 true _ A24.out).mono ?_); rintro e w42 ⟨rfl, hb⟩; replace BK605 := bb BK605 hb; replace BK606 := bb BK606 hb; replace BK607 := bb BK607 hb; replace BK608 := bb BK608 hb; replace HB := bs HB hb; (try clear hb); obtain ⟨hcz43_0, hcz43_1, hcz43_2, hcz43_3, hcz43_4, hfz43_0, hfz43_1, hfz43_2, hfz43_3, hfz43_4⟩ := cl5 BK608; obtain ⟨hcz44_0, hcz44_1, hcz44_2, hcz44_3, hfz44_0, hfz44_1, hfz44_2, hfz44_3⟩ := cl4 BK607) | (go_at_call 75; (with_reducible refine (impl_Square_let.calls a7_0 a7_1 a7_2 a7_3 _ _ l7_4 a4_0 a4_1 a4_2 a4_3 true _ ?side1 ?side2 A26.out).mono ?_); (case side1 => exact ca (Kd.C_below HR7_4.out HB.out)); (case side2 => exact HC7_4.out); rintro e w45 ⟨rfl, hb⟩; replace BK605 := bb BK605 hb; replace BK606 := bb BK606 hb; replace BK607 := bb BK607 hb; replace BK608 := bb BK608 hb; replace HB := bs HB hb; (try clear hb); obtain ⟨hcz46_0, hcz46_1, hcz46_2, hcz46_3, hcz46_4, hfz46_0, hfz46_1, hfz46_2, hfz46_3, hfz46_4⟩ := cl5 BK608))
          go_meet
          case rel => exact ⟨_, (false), rv, H', om, bk BK605, bk BK606, bk BK607, bk BK608, bh HB⟩
         ·rw [if_neg c28] at H
          obtain ⟨c28b0, c28b1⟩ := eqf c28
          (first | rw [c28b0] | (simp only [i64_w, i32_w]; rw [c28b0]) | skip)
          replace H := bnd H
          obtain ⟨t616, A47, H⟩ := H
          have H' := Aside0.mk H
          clear H
          have hnb48 := NB605_606.out
          have hnc48 := NB606_605.out
          have hnb49 := NB605_607.out
          have hnc49 := NB607_605.out
          have hnb50 := NB605_608.out
          have hnc50 := NB608_605.out
          obtain ⟨hcz51_0, hcz51_1, hcz51_2, hfz51_0, hfz51_1, hfz51_2⟩ := cl3 BK605
          go_wp2_with (first | ((with_reducible refine gate_callee (f := 43) rfl ?_); refine gL (some 23) Try.func43 #[.agg #[.int .i64 a0_0, .int .i64 a0_1, .string a0_2]] ?_; (with_reducible refine (impl_PicOk.calls a0_0 a0_1 a0_2 true _ A14.out).mono ?_); rintro e w52 ⟨rfl, hb⟩; refine ⟨_, rfl, ?_⟩; replace BK605 := bb BK605 hb; replace BK606 := bb BK606 hb; replace BK607 := bb BK607 hb; replace BK608 := bb BK608 hb; replace HB := bs HB hb; (try clear hb); obtain ⟨hcz53_0, hcz53_1, hcz53_2, hfz53_0, hfz53_1, hfz53_2⟩ := cl3 BK605) | (go_at_call 73; (with_reducible refine (impl_Pic_isSquare.calls a0_0 a0_1 a0_2 a5 a6 true _ A16.out).mono ?_); rintro e w54 ⟨rfl, hb⟩; replace BK605 := bb BK605 hb; replace BK606 := bb BK606 hb; replace BK607 := bb BK607 hb; replace BK608 := bb BK608 hb; replace HB := bs HB hb; (try clear hb)) | (go_at_call 55; (with_reducible refine (impl_within.calls a2 0 256 true _ A18.out).mono ?_); rintro e w' ⟨rfl, ⟨nd, rfl⟩⟩) | (go_at_call 55; (with_reducible refine (impl_within.calls a3 0 256 true _ A20.out).mono ?_); rintro e w' ⟨rfl, ⟨nd, rfl⟩⟩; have hnb55 := NB608_606.out; have hnc55 := NB606_608.out; have hnb56 := NB608_607.out; have hnc56 := NB607_608.out; obtain ⟨hcz57_0, hcz57_1, hcz57_2, hcz57_3, hcz57_4, hfz57_0, hfz57_1, hfz57_2, hfz57_3, hfz57_4⟩ := cl5 BK608) | (go_at_call 74; (with_reducible refine (impl_SquareOk.calls k a7_0 a7_1 a7_2 a7_3 _ _ l7_4 true _ ?side1 ?side2 A22.out).mono ?_); (case side1 => exact ca (Kd.C_below HR7_4.out (bo HB))); (case side2 => exact HC7_4.out); rintro e w58 ⟨rfl, hb⟩; replace BK605 := bb BK605 hb; replace BK606 := bb BK606 hb; replace BK607 := bb BK607 hb; replace BK608 := bb BK608 hb; replace HB := bs HB hb; (try clear hb); have hnb59 := NB607_606.out; have hnc59 := NB606_607.out; obtain ⟨hcz60_0, hcz60_1, hcz60_2, hcz60_3, hfz60_0, hfz60_1, hfz60_2, hfz60_3⟩ := cl4 BK607) | (go_at_call 62; (with_reducible refine (impl_CondOk.calls a4_0 a4_1 a4_2 a4_3 true _ A24.out).mono ?_); rintro e w61 ⟨rfl, hb⟩; replace BK605 := bb BK605 hb; replace BK606 := bb BK606 hb; replace BK607 := bb BK607 hb; replace BK608 := bb BK608 hb; replace HB := bs HB hb; (try clear hb); obtain ⟨hcz62_0, hcz62_1, hcz62_2, hcz62_3, hcz62_4, hfz62_0, hfz62_1, hfz62_2, hfz62_3, hfz62_4⟩ := cl5 BK608; obtain ⟨hcz63_0, hcz63_1, hcz63_2, hcz63_3, hfz63_0, hfz63_1, hfz63_2, hfz63_3⟩ := cl4 BK607) | (go_at_call 75; (with_reducible refine (impl_Square_let.calls a7_0 a7_1 a7_2 a7_3 _ _ l7_4 a4_0 a4_1 a4_2 a4_3 true _ ?side1 ?side2 A26.out).mono ?_); (case side1 => exact ca (Kd.C_below HR7_4.out HB.out)); (case side2 => exact HC7_4.out); rintro e w64 ⟨rfl, hb⟩; replace BK605 := bb BK605 hb; replace BK606 := bb BK606 hb; replace BK607 := bb BK607 hb; replace BK608 := bb BK608 hb; replace HB := bs HB hb; (try clear hb); obtain ⟨hcz65_0, hcz65_1, hcz65_2, hcz65_3, hcz65_4, hfz65_0, hfz65_1, hfz65_2, hfz65_3, hfz65_4⟩ := cl5 BK608; obtain ⟨hcz66_0, hcz66_1, hcz66_2, hfz66_0, hfz66_1, hfz66_2⟩ := cl3 BK606) | (go_at_call 43; (with_reducible refine (impl_PicOk.calls a1_0 a1_1 a1_2 t616 _ A47.out).mono ?_); rintro e w67 ⟨rfl, hb⟩; replace BK605 := bb BK605 hb; replace BK606 := bb BK606 hb; replace BK607 := bb BK607 hb; replace BK608 := bb BK608 hb; replace HB := bs HB hb; (try clear hb)))
          go_meet
          case rel => exact ⟨_, (!t616), rv, H', om, bk BK605, bk BK606, bk BK607, bk BK608, bh HB⟩
        ·replace c27 := Bool.eq_false_iff.mpr c27
         subst c27
         rw [if_neg nft] at H
         have H' := Aside0.mk H
         clear H
         have hnb68 := NB605_606.out
         have hnc68 := NB606_605.out
         have hnb69 := NB605_607.out
         have hnc69 := NB607_605.out
         have hnb70 := NB605_608.out
         have hnc70 := NB608_605.out
         obtain ⟨hcz71_0, hcz71_1, hcz71_2, hfz71_0, hfz71_1, hfz71_2⟩ := cl3 BK605
         go_wp2_with (first | ((with_reducible refine gate_callee (f := 43) rfl ?_); refine gL (some 23) Try.func43 #[.agg #[.int .i64 a0_0, .int .i64 a0_1, .string a0_2]] ?_; (with_reducible refine (impl_PicOk.calls a0_0 a0_1 a0_2 true _ A14.out).mono ?_); rintro e w72 ⟨rfl, hb⟩; refine ⟨_, rfl, ?_⟩; replace BK605 := bb BK605 hb; replace BK606 := bb BK606 hb; replace BK607 := bb BK607 hb; replace BK608 := bb BK608 hb; replace HB := bs HB hb; (try clear hb); obtain ⟨hcz73_0, hcz73_1, hcz73_2, hfz73_0, hfz73_1, hfz73_2⟩ := cl3 BK605) | (go_at_call 73; (with_reducible refine (impl_Pic_isSquare.calls a0_0 a0_1 a0_2 a5 a6 true _ A16.out).mono ?_); rintro e w74 ⟨rfl, hb⟩; replace BK605 := bb BK605 hb; replace BK606 := bb BK606 hb; replace BK607 := bb BK607 hb; replace BK608 := bb BK608 hb; replace HB := bs HB hb; (try clear hb)) | (go_at_call 55; (with_reducible refine (impl_within.calls a2 0 256 true _ A18.out).mono ?_); rintro e w' ⟨rfl, ⟨nd, rfl⟩⟩) | (go_at_call 55; (with_reducible refine (impl_within.calls a3 0 256 true _ A20.out).mono ?_); rintro e w' ⟨rfl, ⟨nd, rfl⟩⟩; have hnb75 := NB608_606.out; have hnc75 := NB606_608.out; have hnb76 := NB608_607.out; have hnc76 := NB607_608.out; obtain ⟨hcz77_0, hcz77_1, hcz77_2, hcz77_3, hcz77_4, hfz77_0, hfz77_1, hfz77_2, hfz77_3, hfz77_4⟩ := cl5 BK608) | (go_at_call 74; (with_reducible refine (impl_SquareOk.calls k a7_0 a7_1 a7_2 a7_3 _ _ l7_4 true _ ?side1 ?side2 A22.out).mono ?_); (case side1 => exact ca (Kd.C_below HR7_4.out (bo HB))); (case side2 => exact HC7_4.out); rintro e w78 ⟨rfl, hb⟩; replace BK605 := bb BK605 hb; replace BK606 := bb BK606 hb; replace BK607 := bb BK607 hb; replace BK608 := bb BK608 hb; replace HB := bs HB hb; (try clear hb); have hnb79 := NB607_606.out; have hnc79 := NB606_607.out; obtain ⟨hcz80_0, hcz80_1, hcz80_2, hcz80_3, hfz80_0, hfz80_1, hfz80_2, hfz80_3⟩ := cl4 BK607) | (go_at_call 62; (with_reducible refine (impl_CondOk.calls a4_0 a4_1 a4_2 a4_3 true _ A24.out).mono ?_); rintro e w81 ⟨rfl, hb⟩; replace BK605 := bb BK605 hb; replace BK606 := bb BK606 hb; replace BK607 := bb BK607 hb; replace BK608 := bb BK608 hb; replace HB := bs HB hb; (try clear hb); obtain ⟨hcz82_0, hcz82_1, hcz82_2, hcz82_3, hcz82_4, hfz82_0, hfz82_1, hfz82_2, hfz82_3, hfz82_4⟩ := cl5 BK608; obtain ⟨hcz83_0, hcz83_1, hcz83_2, hcz83_3, hfz83_0, hfz83_1, hfz83_2, hfz83_3⟩ := cl4 BK607) | (go_at_call 75; (with_reducible refine (impl_Square_let.calls a7_0 a7_1 a7_2 a7_3 _ _ l7_4 a4_0 a4_1 a4_2 a4_3 false _ ?side1 ?side2 A26.out).mono ?_); (case side1 => exact ca (Kd.C_below HR7_4.out HB.out)); (case side2 => exact HC7_4.out); rintro e w84 ⟨rfl, hb⟩; replace BK605 := bb BK605 hb; replace BK606 := bb BK606 hb; replace BK607 := bb BK607 hb; replace BK608 := bb BK608 hb; replace HB := bs HB hb; (try clear hb)))
         go_meet
         case rel => exact ⟨_, (true), rv, H', om, bk BK605, bk BK606, bk BK607, bk BK608, bh HB⟩
       ·replace c25 := Bool.eq_false_iff.mpr c25
        subst c25
        rw [if_neg nft] at H
        have H' := Aside0.mk H
        clear H
        have hnb85 := NB605_606.out
        have hnc85 := NB606_605.out
        have hnb86 := NB605_607.out
        have hnc86 := NB607_605.out
        have hnb87 := NB605_608.out
        have hnc87 := NB608_605.out
        obtain ⟨hcz88_0, hcz88_1, hcz88_2, hfz88_0, hfz88_1, hfz88_2⟩ := cl3 BK605
        go_wp2_with (first | ((with_reducible refine gate_callee (f := 43) rfl ?_); refine gL (some 23) Try.func43 #[.agg #[.int .i64 a0_0, .int .i64 a0_1, .string a0_2]] ?_; (with_reducible refine (impl_PicOk.calls a0_0 a0_1 a0_2 true _ A14.out).mono ?_); rintro e w89 ⟨rfl, hb⟩; refine ⟨_, rfl, ?_⟩; replace BK605 := bb BK605 hb; replace BK606 := bb BK606 hb; replace BK607 := bb BK607 hb; replace BK608 := bb BK608 hb; replace HB := bs HB hb; (try clear hb); obtain ⟨hcz90_0, hcz90_1, hcz90_2, hfz90_0, hfz90_1, hfz90_2⟩ := cl3 BK605) | (go_at_call 73; (with_reducible refine (impl_Pic_isSquare.calls a0_0 a0_1 a0_2 a5 a6 true _ A16.out).mono ?_); rintro e w91 ⟨rfl, hb⟩; replace BK605 := bb BK605 hb; replace BK606 := bb BK606 hb; replace BK607 := bb BK607 hb; replace BK608 := bb BK608 hb; replace HB := bs HB hb; (try clear hb)) | (go_at_call 55; (with_reducible refine (impl_within.calls a2 0 256 true _ A18.out).mono ?_); rintro e w' ⟨rfl, ⟨nd, rfl⟩⟩) | (go_at_call 55; (with_reducible refine (impl_within.calls a3 0 256 true _ A20.out).mono ?_); rintro e w' ⟨rfl, ⟨nd, rfl⟩⟩; have hnb92 := NB608_606.out; have hnc92 := NB606_608.out; have hnb93 := NB608_607.out; have hnc93 := NB607_608.out; obtain ⟨hcz94_0, hcz94_1, hcz94_2, hcz94_3, hcz94_4, hfz94_0, hfz94_1, hfz94_2, hfz94_3, hfz94_4⟩ := cl5 BK608) | (go_at_call 74; (with_reducible refine (impl_SquareOk.calls k a7_0 a7_1 a7_2 a7_3 _ _ l7_4 true _ ?side1 ?side2 A22.out).mono ?_); (case side1 => exact ca (Kd.C_below HR7_4.out (bo HB))); (case side2 => exact HC7_4.out); rintro e w95 ⟨rfl, hb⟩; replace BK605 := bb BK605 hb; replace BK606 := bb BK606 hb; replace BK607 := bb BK607 hb; replace BK608 := bb BK608 hb; replace HB := bs HB hb; (try clear hb); have hnb96 := NB607_606.out; have hnc96 := NB606_607.out; obtain ⟨hcz97_0, hcz97_1, hcz97_2, hcz97_3, hfz97_0, hfz97_1, hfz97_2, hfz97_3⟩ := cl4 BK607) | (go_at_call 62; (with_reducible refine (impl_CondOk.calls a4_0 a4_1 a4_2 a4_3 false _ A24.out).mono ?_); rintro e w98 ⟨rfl, hb⟩; replace BK605 := bb BK605 hb; replace BK606 := bb BK606 hb; replace BK607 := bb BK607 hb; replace BK608 := bb BK608 hb; replace HB := bs HB hb; (try clear hb)))
        go_meet
        case rel => exact ⟨_, (true), rv, H', om, bk BK605, bk BK606, bk BK607, bk BK608, bh HB⟩
      ·replace c23 := Bool.eq_false_iff.mpr c23
       subst c23
       rw [if_neg nft] at H
       have H' := Aside0.mk H
       clear H
       have hnb99 := NB605_606.out
       have hnc99 := NB606_605.out
       have hnb100 := NB605_607.out
       have hnc100 := NB607_605.out
       have hnb101 := NB605_608.out
       have hnc101 := NB608_605.out
       obtain ⟨hcz102_0, hcz102_1, hcz102_2, hfz102_0, hfz102_1, hfz102_2⟩ := cl3 BK605
       go_wp2_with (first | ((with_reducible refine gate_callee (f := 43) rfl ?_); refine gL (some 23) Try.func43 #[.agg #[.int .i64 a0_0, .int .i64 a0_1, .string a0_2]] ?_; (with_reducible refine (impl_PicOk.calls a0_0 a0_1 a0_2 true _ A14.out).mono ?_); rintro e w103 ⟨rfl, hb⟩; refine ⟨_, rfl, ?_⟩; replace BK605 := bb BK605 hb; replace BK606 := bb BK606 hb; replace BK607 := bb BK607 hb; replace BK608 := bb BK608 hb; replace HB := bs HB hb; (try clear hb); obtain ⟨hcz104_0, hcz104_1, hcz104_2, hfz104_0, hfz104_1, hfz104_2⟩ := cl3 BK605) | (go_at_call 73; (with_reducible refine (impl_Pic_isSquare.calls a0_0 a0_1 a0_2 a5 a6 true _ A16.out).mono ?_); rintro e w105 ⟨rfl, hb⟩; replace BK605 := bb BK605 hb; replace BK606 := bb BK606 hb; replace BK607 := bb BK607 hb; replace BK608 := bb BK608 hb; replace HB := bs HB hb; (try clear hb)) | (go_at_call 55; (with_reducible refine (impl_within.calls a2 0 256 true _ A18.out).mono ?_); rintro e w' ⟨rfl, ⟨nd, rfl⟩⟩) | (go_at_call 55; (with_reducible refine (impl_within.calls a3 0 256 true _ A20.out).mono ?_); rintro e w' ⟨rfl, ⟨nd, rfl⟩⟩; have hnb106 := NB608_606.out; have hnc106 := NB606_608.out; have hnb107 := NB608_607.out; have hnc107 := NB607_608.out; obtain ⟨hcz108_0, hcz108_1, hcz108_2, hcz108_3, hcz108_4, hfz108_0, hfz108_1, hfz108_2, hfz108_3, hfz108_4⟩ := cl5 BK608) | (go_at_call 74; (with_reducible refine (impl_SquareOk.calls k a7_0 a7_1 a7_2 a7_3 _ _ l7_4 false _ ?side1 ?side2 A22.out).mono ?_); (case side1 => exact ca (Kd.C_below HR7_4.out (bo HB))); (case side2 => exact HC7_4.out); rintro e w109 ⟨rfl, hb⟩; replace BK605 := bb BK605 hb; replace BK606 := bb BK606 hb; replace BK607 := bb BK607 hb; replace BK608 := bb BK608 hb; replace HB := bs HB hb; (try clear hb)))
       go_meet
       case rel => exact ⟨_, (true), rv, H', om, bk BK605, bk BK606, bk BK607, bk BK608, bh HB⟩
     ·replace c21 := Bool.eq_false_iff.mpr c21
      subst c21
      rw [if_neg nft] at H
      have H' := Aside0.mk H
      clear H
      have hnb110 := NB605_606.out
      have hnc110 := NB606_605.out
      have hnb111 := NB605_607.out
      have hnc111 := NB607_605.out
      have hnb112 := NB605_608.out
      have hnc112 := NB608_605.out
      obtain ⟨hcz113_0, hcz113_1, hcz113_2, hfz113_0, hfz113_1, hfz113_2⟩ := cl3 BK605
      go_wp2_with (first | ((with_reducible refine gate_callee (f := 43) rfl ?_); refine gL (some 23) Try.func43 #[.agg #[.int .i64 a0_0, .int .i64 a0_1, .string a0_2]] ?_; (with_reducible refine (impl_PicOk.calls a0_0 a0_1 a0_2 true _ A14.out).mono ?_); rintro e w114 ⟨rfl, hb⟩; refine ⟨_, rfl, ?_⟩; replace BK605 := bb BK605 hb; replace BK606 := bb BK606 hb; replace BK607 := bb BK607 hb; replace BK608 := bb BK608 hb; replace HB := bs HB hb; (try clear hb); obtain ⟨hcz115_0, hcz115_1, hcz115_2, hfz115_0, hfz115_1, hfz115_2⟩ := cl3 BK605) | (go_at_call 73; (with_reducible refine (impl_Pic_isSquare.calls a0_0 a0_1 a0_2 a5 a6 true _ A16.out).mono ?_); rintro e w116 ⟨rfl, hb⟩; replace BK605 := bb BK605 hb; replace BK606 := bb BK606 hb; replace BK607 := bb BK607 hb; replace BK608 := bb BK608 hb; replace HB := bs HB hb; (try clear hb)) | (go_at_call 55; (with_reducible refine (impl_within.calls a2 0 256 true _ A18.out).mono ?_); rintro e w' ⟨rfl, ⟨nd, rfl⟩⟩) | (go_at_call 55; (with_reducible refine (impl_within.calls a3 0 256 false _ A20.out).mono ?_); rintro e w' ⟨rfl, ⟨nd, rfl⟩⟩))
      go_meet
      case rel => exact ⟨_, (true), rv, H', om, bk BK605, bk BK606, bk BK607, bk BK608, bh HB⟩
    ·replace c19 := Bool.eq_false_iff.mpr c19
     subst c19
     rw [if_neg nft] at H
     have H' := Aside0.mk H
     clear H
     have hnb117 := NB605_606.out
     have hnc117 := NB606_605.out
     have hnb118 := NB605_607.out
     have hnc118 := NB607_605.out
     have hnb119 := NB605_608.out
     have hnc119 := NB608_605.out
     obtain ⟨hcz120_0, hcz120_1, hcz120_2, hfz120_0, hfz120_1, hfz120_2⟩ := cl3 BK605
     go_wp2_with (first | ((with_reducible refine gate_callee (f := 43) rfl ?_); refine gL (some 23) Try.func43 #[.agg #[.int .i64 a0_0, .int .i64 a0_1, .string a0_2]] ?_; (with_reducible refine (impl_PicOk.calls a0_0 a0_1 a0_2 true _ A14.out).mono ?_); rintro e w121 ⟨rfl, hb⟩; refine ⟨_, rfl, ?_⟩; replace BK605 := bb BK605 hb; replace BK606 := bb BK606 hb; replace BK607 := bb BK607 hb; replace BK608 := bb BK608 hb; replace HB := bs HB hb; (try clear hb); obtain ⟨hcz122_0, hcz122_1, hcz122_2, hfz122_0, hfz122_1, hfz122_2⟩ := cl3 BK605) | (go_at_call 73; (with_reducible refine (impl_Pic_isSquare.calls a0_0 a0_1 a0_2 a5 a6 true _ A16.out).mono ?_); rintro e w123 ⟨rfl, hb⟩; replace BK605 := bb BK605 hb; replace BK606 := bb BK606 hb; replace BK607 := bb BK607 hb; replace BK608 := bb BK608 hb; replace HB := bs HB hb; (try clear hb)) | (go_at_call 55; (with_reducible refine (impl_within.calls a2 0 256 false _ A18.out).mono ?_); rintro e w' ⟨rfl, ⟨nd, rfl⟩⟩))
     go_meet
     case rel => exact ⟨_, (true), rv, H', om, bk BK605, bk BK606, bk BK607, bk BK608, bh HB⟩
   ·replace c17 := Bool.eq_false_iff.mpr c17
    subst c17
    rw [if_neg nft] at H
    have H' := Aside0.mk H
    clear H
    have hnb124 := NB605_606.out
    have hnc124 := NB606_605.out
    have hnb125 := NB605_607.out
    have hnc125 := NB607_605.out
    have hnb126 := NB605_608.out
    have hnc126 := NB608_605.out
    obtain ⟨hcz127_0, hcz127_1, hcz127_2, hfz127_0, hfz127_1, hfz127_2⟩ := cl3 BK605
    go_wp2_with (first | ((with_reducible refine gate_callee (f := 43) rfl ?_); refine gL (some 23) Try.func43 #[.agg #[.int .i64 a0_0, .int .i64 a0_1, .string a0_2]] ?_; (with_reducible refine (impl_PicOk.calls a0_0 a0_1 a0_2 true _ A14.out).mono ?_); rintro e w128 ⟨rfl, hb⟩; refine ⟨_, rfl, ?_⟩; replace BK605 := bb BK605 hb; replace BK606 := bb BK606 hb; replace BK607 := bb BK607 hb; replace BK608 := bb BK608 hb; replace HB := bs HB hb; (try clear hb); obtain ⟨hcz129_0, hcz129_1, hcz129_2, hfz129_0, hfz129_1, hfz129_2⟩ := cl3 BK605) | (go_at_call 73; (with_reducible refine (impl_Pic_isSquare.calls a0_0 a0_1 a0_2 a5 a6 false _ A16.out).mono ?_); rintro e w130 ⟨rfl, hb⟩; replace BK605 := bb BK605 hb; replace BK606 := bb BK606 hb; replace BK607 := bb BK607 hb; replace BK608 := bb BK608 hb; replace HB := bs HB hb; (try clear hb)))
    go_meet
    case rel => exact ⟨_, (true), rv, H', om, bk BK605, bk BK606, bk BK607, bk BK608, bh HB⟩
  ·replace c15 := Bool.eq_false_iff.mpr c15
   subst c15
   rw [if_neg nft] at H
   have H' := Aside0.mk H
   clear H
   have hnb131 := NB605_606.out
   have hnc131 := NB606_605.out
   have hnb132 := NB605_607.out
   have hnc132 := NB607_605.out
   have hnb133 := NB605_608.out
   have hnc133 := NB608_605.out
   obtain ⟨hcz134_0, hcz134_1, hcz134_2, hfz134_0, hfz134_1, hfz134_2⟩ := cl3 BK605
   go_wp2_with (first | ((with_reducible refine gate_callee (f := 43) rfl ?_); refine gL (some 23) Try.func43 #[.agg #[.int .i64 a0_0, .int .i64 a0_1, .string a0_2]] ?_; (with_reducible refine (impl_PicOk.calls a0_0 a0_1 a0_2 false _ A14.out).mono ?_); rintro e w135 ⟨rfl, hb⟩; refine ⟨_, rfl, ?_⟩; replace BK605 := bb BK605 hb; replace BK606 := bb BK606 hb; replace BK607 := bb BK607 hb; replace BK608 := bb BK608 hb; replace HB := bs HB hb; (try clear hb)))
   go_meet
   case rel => exact ⟨_, (true), rv, H', om, bk BK605, bk BK606, bk BK607, bk BK608, bh HB⟩
 case rest =>
  clear HC9
  try clear hcz102_0 hcz102_1 hcz102_2 hfz102_0 hfz102_1 hfz102_2
  try clear hcz104_0 hcz104_1 hcz104_2 hfz104_0 hfz104_1 hfz104_2
  try clear hcz108_0 hcz108_1 hcz108_2 hcz108_3 hcz108_4 hfz108_0 hfz108_1 hfz108_2 hfz108_3 hfz108_4
  try clear hcz113_0 hcz113_1 hcz113_2 hfz113_0 hfz113_1 hfz113_2
  try clear hcz115_0 hcz115_1 hcz115_2 hfz115_0 hfz115_1 hfz115_2
  try clear hcz120_0 hcz120_1 hcz120_2 hfz120_0 hfz120_1 hfz120_2
  try clear hcz122_0 hcz122_1 hcz122_2 hfz122_0 hfz122_1 hfz122_2
  try clear hcz127_0 hcz127_1 hcz127_2 hfz127_0 hfz127_1 hfz127_2
  try clear hcz129_0 hcz129_1 hcz129_2 hfz129_0 hfz129_1 hfz129_2
  try clear hcz134_0 hcz134_1 hcz134_2 hfz134_0 hfz134_1 hfz134_2
  try clear hcz32_0 hcz32_1 hcz32_2 hfz32_0 hfz32_1 hfz32_2
  try clear hcz34_0 hcz34_1 hcz34_2 hfz34_0 hfz34_1 hfz34_2
  try clear hcz38_0 hcz38_1 hcz38_2 hcz38_3 hcz38_4 hfz38_0 hfz38_1 hfz38_2 hfz38_3 hfz38_4
  try clear hcz41_0 hcz41_1 hcz41_2 hcz41_3 hfz41_0 hfz41_1 hfz41_2 hfz41_3
  try clear hcz43_0 hcz43_1 hcz43_2 hcz43_3 hcz43_4 hfz43_0 hfz43_1 hfz43_2 hfz43_3 hfz43_4
  try clear hcz44_0 hcz44_1 hcz44_2 hcz44_3 hfz44_0 hfz44_1 hfz44_2 hfz44_3
  try clear hcz46_0 hcz46_1 hcz46_2 hcz46_3 hcz46_4 hfz46_0 hfz46_1 hfz46_2 hfz46_3 hfz46_4
  try clear hcz51_0 hcz51_1 hcz51_2 hfz51_0 hfz51_1 hfz51_2
  try clear hcz53_0 hcz53_1 hcz53_2 hfz53_0 hfz53_1 hfz53_2
  try clear hcz57_0 hcz57_1 hcz57_2 hcz57_3 hcz57_4 hfz57_0 hfz57_1 hfz57_2 hfz57_3 hfz57_4
  try clear hcz60_0 hcz60_1 hcz60_2 hcz60_3 hfz60_0 hfz60_1 hfz60_2 hfz60_3
  try clear hcz62_0 hcz62_1 hcz62_2 hcz62_3 hcz62_4 hfz62_0 hfz62_1 hfz62_2 hfz62_3 hfz62_4
  try clear hcz63_0 hcz63_1 hcz63_2 hcz63_3 hfz63_0 hfz63_1 hfz63_2 hfz63_3
  try clear hcz65_0 hcz65_1 hcz65_2 hcz65_3 hcz65_4 hfz65_0 hfz65_1 hfz65_2 hfz65_3 hfz65_4
  try clear hcz66_0 hcz66_1 hcz66_2 hfz66_0 hfz66_1 hfz66_2
  try clear hcz71_0 hcz71_1 hcz71_2 hfz71_0 hfz71_1 hfz71_2
  try clear hcz73_0 hcz73_1 hcz73_2 hfz73_0 hfz73_1 hfz73_2
  try clear hcz77_0 hcz77_1 hcz77_2 hcz77_3 hcz77_4 hfz77_0 hfz77_1 hfz77_2 hfz77_3 hfz77_4
  try clear hcz80_0 hcz80_1 hcz80_2 hcz80_3 hfz80_0 hfz80_1 hfz80_2 hfz80_3
  try clear hcz82_0 hcz82_1 hcz82_2 hcz82_3 hcz82_4 hfz82_0 hfz82_1 hfz82_2 hfz82_3 hfz82_4
  try clear hcz83_0 hcz83_1 hcz83_2 hcz83_3 hfz83_0 hfz83_1 hfz83_2 hfz83_3
  try clear hcz88_0 hcz88_1 hcz88_2 hfz88_0 hfz88_1 hfz88_2
  try clear hcz90_0 hcz90_1 hcz90_2 hfz90_0 hfz90_1 hfz90_2
  try clear hcz94_0 hcz94_1 hcz94_2 hcz94_3 hcz94_4 hfz94_0 hfz94_1 hfz94_2 hfz94_3 hfz94_4
  try clear hcz97_0 hcz97_1 hcz97_2 hcz97_3 hfz97_0 hfz97_1 hfz97_2 hfz97_3
  obtain ⟨kq, x67_8, rfl, HA, HJ8, BK605, BK606, BK607, BK608, HB⟩ := hcut
  cases kq with
  | zero => exact absurd HA.out (by simp [impl_SquareDots.j0])
  | succ kj8 =>
   have H := HA.out
   clear HA
   simp only [impl_SquareDots.j0] at H
   by_cases c136 : x67_8 = true
   ·subst c136
    rw [if_pos rfl] at H
    obtain ⟨y617, hy617⟩ : ∃ y_ : List Int, y_ = (([] : List Int)) := ⟨_, rfl⟩
    replace H : (some (y617, false)) = some (r1, r2) := by subst hy617; exact H
    have Ny617 := Aside0.mk hy617
    clear hy617
    simp only [Option.some.injEq, Prod.mk.injEq] at H
    obtain ⟨rfl, rfl⟩ := H
    go_wp2_with (first | ((with_reducible refine gate_dst (N := 68) rfl ?_); refine Kd.R_lit (Kd.int .i64) _ 3 ?hg (N := 68) ?hd (xs := ([] : List Int)) (inner := []) (ok := fun _ => True) (okp := fun _ => True) ?hr ?hp (fun _ hk => hk) trivial (Below.refl _ _) (Nat.le_refl _) (by simp) ?_; (case hd => rfl); (case hg => rfl); (case hr => first | (go_simp; done) | (go_simp; rfl)); (case hp => exact (Reps.none _ _)); intro v618 w137 ho138 hb hg_ hnew_; clear hg_ hnew_; (first | rw [← Ny617.out] at ho138 | (simp only [Int.reduceToNat] at ho138; rw [← Ny617.out] at ho138)); have HO619 := Aside0.mk (Kd.R_lower ho138 (below_size (bo HB))); replace BK605 := bb BK605 hb; replace BK606 := bb BK606 hb; replace BK607 := bb BK607 hb; replace BK608 := bb BK608 hb; replace HB := bs HB hb; clear hb ho138))
    go_ret2
    exact ⟨_, re, ro HO619.out, bo HB⟩
   ·replace c136 := Bool.eq_false_iff.mpr c136
    subst c136
    rw [if_neg nft] at H
    by_cases c139 : a7_0 = 0
    ·rw [if_pos c139] at H
     obtain ⟨c139b0, c139b1⟩ := eqt c139
     clear c139
     replace H := bnd H
     obtain ⟨t620, A140, H⟩ := H
     simp only [Option.some.injEq, Prod.mk.injEq] at H
     obtain ⟨rfl, rfl⟩ := H
     have hnb141 := NB608_605.out
     have hnc141 := NB605_608.out
     have hnb142 := NB608_606.out
     have hnc142 := NB606_608.out
     have hnb143 := NB608_607.out
     have hnc143 := NB607_608.out
     obtain ⟨hcz144_0, hcz144_1, hcz144_2, hcz144_3, hcz144_4, hfz144_0, hfz144_1, hfz144_2, hfz144_3, hfz144_4⟩ := cl5 BK608
     have hnb145 := NB606_605.out
     have hnc145 := NB605_606.out
     have hnb146 := NB606_607.out
     have hnc146 := NB607_606.out
     obtain ⟨hcz147_0, hcz147_1, hcz147_2, hfz147_0, hfz147_1, hfz147_2⟩ := cl3 BK606
     go_wp2_with (first | ((with_reducible refine gate_callee (f := 76) rfl ?_); refine gL (some 79) Try.func76 #[.agg #[.int .i64 a1_0, .int .i64 a1_1, .string a1_2], .int .i64 (wrap64 (a2 + a5)), .int .i64 (wrap64 (a3 + a6))] ?_ (hargs := (by (try simp only [List.map_toArray, List.map_cons, List.map_nil]); first | done | rfl | (rw [show (wrap64 (a2 + a5)) = (a2 + a5) from by unfold wrap64; omega, show (wrap64 (a3 + a6)) = (a3 + a6) from by unfold wrap64; omega]; rfl) | (simp only [List.length_drop, List.length_take]; rfl))); (with_reducible refine (impl_Pic_block.calls kj8 a1_0 a1_1 a1_2 (wrap64 (a2 + a5)) (wrap64 (a3 + a6)) t620 _ A140.out).mono ?_); rintro e w148 ⟨v621, rfl, ho0, hb⟩; refine ⟨_, rfl, ?_⟩; have HO622 := Aside0.mk (Kd.R_lower ho0 (below_size (bo HB))); replace BK605 := bb BK605 hb; replace BK606 := bb BK606 hb; replace BK607 := bb BK607 hb; replace BK608 := bb BK608 hb; replace HB := bs HB hb; (try clear hb); (try clear ho0)))
     go_ret2
     exact ⟨_, re, ro HO622.out, bo HB⟩
    ·rw [if_neg c139] at H
     obtain ⟨c139b0, c139b1⟩ := eqf c139
     replace H := bnd H
     obtain ⟨⟨t623, t626⟩, A149, H⟩ := H
     dsimp only at H
     by_cases c150 : a7_0 = 1
     ·rw [if_pos c150] at H
      obtain ⟨c150b0, c150b1⟩ := eqt c150
      clear c150
      replace H := bnd H
      obtain ⟨t627, A151, H⟩ := H
      replace H := bnd H
      obtain ⟨t630, A152, H⟩ := H
      simp only [Option.some.injEq, Prod.mk.injEq] at H
      obtain ⟨rfl, rfl⟩ := H
      have hnb153 := NB608_605.out
      have hnc153 := NB605_608.out
      have hnb154 := NB608_606.out
      have hnc154 := NB606_608.out
      have hnb155 := NB608_607.out
      have hnc155 := NB607_608.out
      obtain ⟨hcz156_0, hcz156_1, hcz156_2, hcz156_3, hcz156_4, hfz156_0, hfz156_1, hfz156_2, hfz156_3, hfz156_4⟩ := cl5 BK608
      have hnb157 := NB607_605.out
      have hnc157 := NB605_607.out
      have hnb158 := NB607_606.out
      have hnc158 := NB606_607.out
      obtain ⟨hcz159_0, hcz159_1, hcz159_2, hcz159_3, hfz159_0, hfz159_1, hfz159_2, hfz159_3⟩ := cl4 BK607
      go_wp2_with (first | ((with_reducible refine gate_callee (f := 77) rfl ?_); refine gL (some 84) Try.func77 #[.slice A7_4 l7_4.length c7_4, .agg #[.bool a4_0, .int .i64 a4_1, .bool a4_2, .bool a4_3]] ?_; (with_reducible refine (impl_LevelsBack.calls kj8 _ _ l7_4 a4_0 a4_1 a4_2 a4_3 t623 t626 _ ?side1 ?side2 A149.out).mono ?_); (case side1 => exact ca (Kd.C_below HR7_4.out HB.out)); (case side2 => exact HC7_4.out); rintro e w160 ⟨v624, rfl, ho0, hb⟩; refine ⟨_, rfl, ?_⟩; have HO625 := Aside0.mk (Kd.R_lower ho0 (below_size (bo HB))); replace BK605 := bb BK605 hb; replace BK606 := bb BK606 hb; replace BK607 := bb BK607 hb; replace BK608 := bb BK608 hb; replace HB := bs HB hb; (try clear hb); (try clear ho0); obtain ⟨hcz161_0, hcz161_1, hcz161_2, hcz161_3, hcz161_4, hfz161_0, hfz161_1, hfz161_2, hfz161_3, hfz161_4⟩ := cl5 BK608; have hnb162 := NB606_605.out; have hnc162 := NB605_606.out; obtain ⟨hcz163_0, hcz163_1, hcz163_2, hfz163_0, hfz163_1, hfz163_2⟩ := cl3 BK606) | ((with_reducible refine gate_callee (f := 76) rfl ?_); refine gL (some 103) Try.func76 #[.agg #[.int .i64 a1_0, .int .i64 a1_1, .string a1_2], .int .i64 (wrap64 ((wrap64 (a2 + a5)) + a7_2)), .int .i64 (wrap64 ((wrap64 (a3 + a6)) + a7_3))] ?_ (hargs := (by (try simp only [List.map_toArray, List.map_cons, List.map_nil]); first | done | rfl | (rw [show (wrap64 ((wrap64 (a2 + a5)) + a7_2)) = ((wrap64 (a2 + a5)) + a7_2) from by unfold wrap64; omega, show (wrap64 ((wrap64 (a3 + a6)) + a7_3)) = ((wrap64 (a3 + a6)) + a7_3) from by unfold wrap64; omega]; rfl) | (simp only [List.length_drop, List.length_take]; rfl))); (with_reducible refine (impl_Pic_block.calls kj8 a1_0 a1_1 a1_2 (wrap64 ((wrap64 (a2 + a5)) + a7_2)) (wrap64 ((wrap64 (a3 + a6)) + a7_3)) t627 _ A151.out).mono ?_); rintro e w164 ⟨v628, rfl, ho0, hb⟩; refine ⟨_, rfl, ?_⟩; have HO629 := Aside0.mk (Kd.R_lower (Kd.R_new' ho0 (Kd.R_lt (ro HO625.out))) (below_size (bo HB))); replace HO625 := Aside0.mk (Kd.R_elder' (ro HO625.out) (Kd.R_base ho0) hb); replace BK605 := bb BK605 hb; replace BK606 := bb BK606 hb; replace BK607 := bb BK607 hb; replace BK608 := bb BK608 hb; replace HB := bs HB hb; (try clear hb); (try clear ho0); obtain ⟨Ao165, co165, eo165⟩ := Kd.R_slice HO629.out; subst eo165; obtain ⟨Ao166, co166, eo166⟩ := Kd.R_slice HO625.out; subst eo166) | ((with_reducible refine gate_callee (f := 78) rfl ?_); refine gL (some 105) Try.func78 #[.slice Ao165 t627.length co165, .slice Ao166 t623.length co166] ?_; (with_reducible refine (impl_Joined.calls kj8 _ _ t627 _ _ t623 t630 _ ?side1 ?side2 ?side3 ?side4 A152.out).mono ?_); (case side1 => exact ca ((Kd.R_reads' HO629.out).2.2)); (case side2 => exact (Kd.R_reads' HO629.out).2.1); (case side3 => exact ca ((Kd.R_reads' HO625.out).2.2)); (case side4 => exact (Kd.R_reads' HO625.out).2.1); rintro e w167 ⟨v631, rfl, ho0, hb⟩; refine ⟨_, rfl, ?_⟩; have HO632 := Aside0.mk (Kd.R_lower (Kd.R_new' (Kd.R_new' ho0 (Kd.R_lt (ro HO625.out))) (Kd.R_lt (ro HO629.out))) (below_size (bo HB))); replace HO625 := Aside0.mk (Kd.R_elder' (ro HO625.out) (Kd.R_base ho0) hb); replace HO629 := Aside0.mk (Kd.R_elder' (ro HO629.out) (Kd.R_base ho0) hb); replace BK605 := bb BK605 hb; replace BK606 := bb BK606 hb; replace BK607 := bb BK607 hb; replace BK608 := bb BK608 hb; replace HB := bs HB hb; (try clear hb); (try clear ho0)))
      go_ret2
      exact ⟨_, re, ro (Kd.R_mono HO632.out (fun _ hk => trivial)), bo HB⟩
     ·rw [if_neg c150] at H
      obtain ⟨c150b0, c150b1⟩ := eqf c150
      replace H := bnd H
      obtain ⟨⟨t633, t636, t639, t640⟩, A168, H⟩ := H
      dsimp only at H
      replace H := bnd H
      obtain ⟨t642, A169, H⟩ := H
      replace H := bnd H
      obtain ⟨t645, A170, H⟩ := H
      simp only [Option.some.injEq, Prod.mk.injEq] at H
      obtain ⟨rfl, rfl⟩ := H
      have hnb171 := NB608_605.out
      have hnc171 := NB605_608.out
      have hnb172 := NB608_606.out
      have hnc172 := NB606_608.out
      have hnb173 := NB608_607.out
      have hnc173 := NB607_608.out
      obtain ⟨hcz174_0, hcz174_1, hcz174_2, hcz174_3, hcz174_4, hfz174_0, hfz174_1, hfz174_2, hfz174_3, hfz174_4⟩ := cl5 BK608
      have hnb175 := NB607_605.out
      have hnc175 := NB605_607.out
      have hnb176 := NB607_606.out
      have hnc176 := NB606_607.out
      obtain ⟨hcz177_0, hcz177_1, hcz177_2, hcz177_3, hfz177_0, hfz177_1, hfz177_2, hfz177_3⟩ := cl4 BK607
      go_wp2_with (first | ((with_reducible refine gate_callee (f := 77) rfl ?_); refine gL (some 84) Try.func77 #[.slice A7_4 l7_4.length c7_4, .agg #[.bool a4_0, .int .i64 a4_1, .bool a4_2, .bool a4_3]] ?_; (with_reducible refine (impl_LevelsBack.calls kj8 _ _ l7_4 a4_0 a4_1 a4_2 a4_3 t623 t626 _ ?side1 ?side2 A149.out).mono ?_); (case side1 => exact ca (Kd.C_below HR7_4.out HB.out)); (case side2 => exact HC7_4.out); rintro e w178 ⟨v624, rfl, ho0, hb⟩; refine ⟨_, rfl, ?_⟩; have HO625 := Aside0.mk (Kd.R_lower ho0 (below_size (bo HB))); replace BK605 := bb BK605 hb; replace BK606 := bb BK606 hb; replace BK607 := bb BK607 hb; replace BK608 := bb BK608 hb; replace HB := bs HB hb; (try clear hb); (try clear ho0); obtain ⟨hcz179_0, hcz179_1, hcz179_2, hcz179_3, hcz179_4, hfz179_0, hfz179_1, hfz179_2, hfz179_3, hfz179_4⟩ := cl5 BK608; have hnb180 := NB605_606.out; have hnc180 := NB606_605.out; obtain ⟨hcz181_0, hcz181_1, hcz181_2, hfz181_0, hfz181_1, hfz181_2⟩ := cl3 BK605) | ((with_reducible refine gate_callee (f := 79) rfl ?_); refine gL (some 110) Try.func79 #[.agg #[.int .i64 a0_0, .int .i64 a0_1, .string a0_2], .int .i64 a5, .int .i64 a6] ?_; (with_reducible refine (impl_EdgesOf.calls kj8 a0_0 a0_1 a0_2 a5 a6 t633 t636 t639 t640 _ A168.out).mono ?_); rintro e w182 ⟨v634, v637, rfl, ho0, ho1, hb⟩; refine ⟨_, rfl, ?_⟩; have HO635 := Aside0.mk (Kd.R_lower (Kd.R_new' ho0 (Kd.R_lt (ro HO625.out))) (below_size (bo HB))); have HO638 := Aside0.mk (Kd.R_lower (Kd.R_new' ho1 (Kd.R_lt (ro HO625.out))) (below_size (bo HB))); replace HO625 := Aside0.mk (Kd.R_mono (Kd.R_told (Kd.R_told (Kd.R_old (ro HO625.out) hb) (Kd.R_base ho0)) (Kd.R_base ho1)) (fun _ h_ => h_.1)); replace BK605 := bb BK605 hb; replace BK606 := bb BK606 hb; replace BK607 := bb BK607 hb; replace BK608 := bb BK608 hb; replace HB := bs HB hb; (try clear hb); (try clear ho0); (try clear ho1)) | ((with_reducible refine gate_dst (N := 20) rfl ?_); refine bx 20 #[.slice none 0 0, .slice none 0 0, .int .i64 0] 101 ?_; intro gb641 hg w183 BK641 hb; have GW641 := ge HB hg; have GE641 := ge HB hg; have NB605_641 := n1 BK605 hg; have NB641_605 := n2 BK605 hg; have NB606_641 := n1 BK606 hg; have NB641_606 := n2 BK606 hg; have NB607_641 := n1 BK607 hg; have NB641_607 := n2 BK607 hg; have NB608_641 := n1 BK608 hg; have NB641_608 := n2 BK608 hg; replace HO625 := Aside0.mk (Kd.R_below (ro HO625.out) hb); replace HO635 := Aside0.mk (Kd.R_below (ro HO635.out) hb); replace HO638 := Aside0.mk (Kd.R_below (ro HO638.out) hb); replace BK605 := bb BK605 hb; replace BK606 := bb BK606 hb; replace BK607 := bb BK607 hb; replace BK608 := bb BK608 hb; replace HB := bs HB hb; clear hb hg; obtain ⟨Ao184, co184, eo184⟩ := Kd.R_slice HO635.out; subst eo184; have hnb185 := NB641_605.out; have hnc185 := NB605_641.out; have hnb186 := NB641_606.out; have hnc186 := NB606_641.out; have hnb187 := NB641_607.out; have hnc187 := NB607_641.out; have hnb188 := NB641_608.out; have hnc188 := NB608_641.out; obtain ⟨hcz189_0, hcz189_1, hcz189_2, hfz189_0, hfz189_1, hfz189_2⟩ := cl3 BK641; obtain ⟨Ao190, co190, eo190⟩ := Kd.R_slice HO638.out; subst eo190) | ((with_reducible refine gate_store (t := 101) (p := 20) rfl ?_); refine store_event (t := 101) (p := 20) (v := ?vo_w191) (w1 := (((w183.setCell ⟨gb641, 0, none⟩ (.slice Ao184 t633.length co184)).setCell ⟨gb641, 1, none⟩ (.slice Ao190 t636.length co190)).setCell ⟨gb641, 2, none⟩ (.int .i64 t639))) ?hg ?ho ?hn ?hr ?_; (case ho => rfl); (case hg => rfl); (case hn => rfl); (case hr => first | (go_simp; done) | (go_simp; rfl)); intro w191 hw; have n0_ : Aside0 (Kd.R (Kd.int .i64) 3 w191 w.heap.size (fun k_ => some k_ ≠ (.slice Ao184 t633.length co184 : Value).ownBlock ∧ some k_ ≠ (.slice Ao190 t636.length co190 : Value).ownBlock) v624 t623) := ⟨(by rw [hw]; exact (ro (Kd.R_mono (Kd.R_far (p := ⟨gb641, 2, none⟩) (Kd.R_far (p := ⟨gb641, 1, none⟩) (Kd.R_far (p := ⟨gb641, 0, none⟩) (Kd.R_types HO625.out BK641.out (by decide)) (fun _ hk => hk.2) (.slice Ao184 t633.length co184)) (fun _ hk => hk.2) (.slice Ao190 t636.length co190)) (fun _ hk => hk.2) (.int .i64 t639)) (fun _ hk => ⟨hk.1.1.2, hk.1.2⟩))))⟩; have n1_ : Aside0 (Kd.R (Kd.int .i64) 3 w191 w.heap.size (fun k_ => some k_ ≠ (v624 : Value).ownBlock ∧ some k_ ≠ (.slice Ao190 t636.length co190 : Value).ownBlock) (.slice Ao184 t633.length co184) t633) := ⟨(by rw [hw]; exact (ro (Kd.R_mono (Kd.R_far (p := ⟨gb641, 2, none⟩) (Kd.R_far (p := ⟨gb641, 1, none⟩) (Kd.R_far (p := ⟨gb641, 0, none⟩) (Kd.R_types HO635.out BK641.out (by decide)) (fun _ hk => hk.2) (.slice Ao184 t633.length co184)) (fun _ hk => hk.2) (.slice Ao190 t636.length co190)) (fun _ hk => hk.2) (.int .i64 t639)) (fun _ hk => ⟨hk.1.2, hk.1.1⟩))))⟩; have n2_ : Aside0 (Kd.R (Kd.int .i64) 3 w191 w.heap.size (fun k_ => some k_ ≠ (v624 : Value).ownBlock ∧ some k_ ≠ (.slice Ao184 t633.length co184 : Value).ownBlock) (.slice Ao190 t636.length co190) t636) := ⟨(by rw [hw]; exact (ro (Kd.R_mono (Kd.R_far (p := ⟨gb641, 2, none⟩) (Kd.R_far (p := ⟨gb641, 1, none⟩) (Kd.R_far (p := ⟨gb641, 0, none⟩) (Kd.R_types HO638.out BK641.out (by decide)) (fun _ hk => hk.2) (.slice Ao184 t633.length co184)) (fun _ hk => hk.2) (.slice Ao190 t636.length co190)) (fun _ hk => hk.2) (.int .i64 t639)) (fun _ hk => ⟨hk.1.2, hk.1.1⟩))))⟩; have n3_ : Aside0 (w191.heap[gb605]? = some (.cells #[.int .i64 a0_0, .int .i64 a0_1, .string a0_2] 25 (0, 0))) := ⟨(by rw [hw]; exact (by (with_reducible repeat (first | refine blk_drewN ?_ _ | refine blk_drew ?_ | refine blk_alloc ?_ _)); refine blk_far ?_ NB605_641.out _; (with_reducible repeat (first | refine blk_drewN ?_ _ | refine blk_drew ?_ | refine blk_alloc ?_ _)); refine blk_far ?_ NB605_641.out _; (with_reducible repeat (first | refine blk_drewN ?_ _ | refine blk_drew ?_ | refine blk_alloc ?_ _)); refine blk_far ?_ NB605_641.out _; (with_reducible repeat (first | refine blk_drewN ?_ _ | refine blk_drew ?_ | refine blk_alloc ?_ _)); exact BK605.out))⟩; have n4_ : Aside0 (w191.heap[gb606]? = some (.cells #[.int .i64 a1_0, .int .i64 a1_1, .string a1_2] 25 (0, 0))) := ⟨(by rw [hw]; exact (by (with_reducible repeat (first | refine blk_drewN ?_ _ | refine blk_drew ?_ | refine blk_alloc ?_ _)); refine blk_far ?_ NB606_641.out _; (with_reducible repeat (first | refine blk_drewN ?_ _ | refine blk_drew ?_ | refine blk_alloc ?_ _)); refine blk_far ?_ NB606_641.out _; (with_reducible repeat (first | refine blk_drewN ?_ _ | refine blk_drew ?_ | refine blk_alloc ?_ _)); refine blk_far ?_ NB606_641.out _; (with_reducible repeat (first | refine blk_drewN ?_ _ | refine blk_drew ?_ | refine blk_alloc ?_ _)); exact BK606.out))⟩; have n5_ : Aside0 (w191.heap[gb607]? = some (.cells #[.bool a4_0, .int .i64 a4_1, .bool a4_2, .bool a4_3] 50 (0, 0))) := ⟨(by rw [hw]; exact (by (with_reducible repeat (first | refine blk_drewN ?_ _ | refine blk_drew ?_ | refine blk_alloc ?_ _)); refine blk_far ?_ NB607_641.out _; (with_reducible repeat (first | refine blk_drewN ?_ _ | refine blk_drew ?_ | refine blk_alloc ?_ _)); refine blk_far ?_ NB607_641.out _; (with_reducible repeat (first | refine blk_drewN ?_ _ | refine blk_drew ?_ | refine blk_alloc ?_ _)); refine blk_far ?_ NB607_641.out _; (with_reducible repeat (first | refine blk_drewN ?_ _ | refine blk_drew ?_ | refine blk_alloc ?_ _)); exact BK607.out))⟩; have n6_ : Aside0 (w191.heap[gb608]? = some (.cells #[.int .i64 a7_0, .int .i64 a7_1, .int .i64 a7_2, .int .i64 a7_3, .slice A7_4 l7_4.length c7_4] 63 (0, 0))) := ⟨(by rw [hw]; exact (by (with_reducible repeat (first | refine blk_drewN ?_ _ | refine blk_drew ?_ | refine blk_alloc ?_ _)); refine blk_far ?_ NB608_641.out _; (with_reducible repeat (first | refine blk_drewN ?_ _ | refine blk_drew ?_ | refine blk_alloc ?_ _)); refine blk_far ?_ NB608_641.out _; (with_reducible repeat (first | refine blk_drewN ?_ _ | refine blk_drew ?_ | refine blk_alloc ?_ _)); refine blk_far ?_ NB608_641.out _; (with_reducible repeat (first | refine blk_drewN ?_ _ | refine blk_drew ?_ | refine blk_alloc ?_ _)); exact BK608.out))⟩; have n7_ : Aside0 (w191.heap[gb641]? = some (.cells #[.slice Ao184 t633.length co184, .slice Ao190 t636.length co190, .int .i64 t639] 101 (0, 0))) := ⟨(by rw [hw]; exact (by (with_reducible repeat (first | refine blk_drewN ?_ _ | refine blk_drew ?_ | refine blk_alloc ?_ _)); refine blk_put (cs := #[.slice Ao184 t633.length co184, .slice Ao190 t636.length co190, .int .i64 0]) ?_ 2 _ rfl; (with_reducible repeat (first | refine blk_drewN ?_ _ | refine blk_drew ?_ | refine blk_alloc ?_ _)); refine blk_put (cs := #[.slice Ao184 t633.length co184, .slice none 0 0, .int .i64 0]) ?_ 1 _ rfl; (with_reducible repeat (first | refine blk_drewN ?_ _ | refine blk_drew ?_ | refine blk_alloc ?_ _)); refine blk_put (cs := #[.slice none 0 0, .slice none 0 0, .int .i64 0]) ?_ 0 _ rfl; (with_reducible repeat (first | refine blk_drewN ?_ _ | refine blk_drew ?_ | refine blk_alloc ?_ _)); exact BK641.out))⟩; have n8_ : Aside0 (Below w.heap.size w w191) := ⟨(by rw [hw]; exact (bo HB))⟩; clear hw; clear HO625; clear HO635; clear HO638; clear BK605; clear BK606; clear BK607; clear BK608; clear BK641; clear HB; have HO625 := n0_; have HO635 := n1_; have HO638 := n2_; have BK605 := n3_; have BK606 := n4_; have BK607 := n5_; have BK608 := n6_; have BK641 := n7_; have HB := n8_; clear n0_ n1_ n2_ n3_ n4_ n5_ n6_ n7_ n8_; obtain ⟨hcz192_0, hcz192_1, hcz192_2, hcz192_3, hcz192_4, hfz192_0, hfz192_1, hfz192_2, hfz192_3, hfz192_4⟩ := cl5 BK608; obtain ⟨hcz193_0, hcz193_1, hcz193_2, hfz193_0, hfz193_1, hfz193_2⟩ := cl3 BK641) | ((with_reducible refine gate_callee (f := 80) rfl ?_); refine gL (some 116) Try.func80 #[.int .i64 a7_1, .agg #[.slice Ao184 t633.length co184, .slice Ao190 t636.length co190, .int .i64 t639]] ?_; (with_reducible refine (impl_GuessOf.calls kj8 a7_1 (fun k_ => some k_ = (.slice Ao184 t633.length co184 : Value).ownBlock) (.slice Ao184 t633.length co184) t633 (fun k_ => some k_ = (.slice Ao190 t636.length co190 : Value).ownBlock) (.slice Ao190 t636.length co190) t636 t639 t642 w _ ?side1 ?side2 ?side3 ?side4 ?side5 A169.out).mono ?_); (case side1 => repeat (first | (with_reducible first | exact HB.out | apply below_alloc | apply pw_below_drewN | apply below_drew1 | refine below_set ?_ GE605.out | refine below_set ?_ GE606.out | refine below_set ?_ GE607.out | refine below_set ?_ GE608.out | refine below_set ?_ GE641.out) | exact HB.out)); (case side2 => exact Kd.R_tight rfl HO635.out); (case side3 => first | exact fun k_ e_ => (HO635.out.1 k_ e_.symm).2 | (intro k_ e_; have q_ := (HO635.out.1 k_ e_.symm); simp only [ne_eq] at q_; simp only [q_, not_false_eq_true])); (case side4 => exact Kd.R_tight rfl HO638.out); (case side5 => first | exact fun k_ e_ => (HO638.out.1 k_ e_.symm).2 | (intro k_ e_; have q_ := (HO638.out.1 k_ e_.symm); simp only [ne_eq] at q_; simp only [q_, not_false_eq_true])); rintro e w194 ⟨v643, rfl, ho0, hb, hkp⟩; refine ⟨_, rfl, ?_⟩; have HO644 := Aside0.mk (Kd.R_mono (ok' := fun k_ => some k_ ≠ (v624 : Value).ownBlock) ho0 (fun k_ hk_ => Or.elim hk_ (fun hs_ => Or.elim hs_ (fun hs_ => fun e_ => (((HO625.out).1 k_ e_.symm).1) hs_) (fun hs_ => fun e_ => (((HO625.out).1 k_ e_.symm).2) hs_)) (fun hn_ => (Kd.fresh' (Kd.R_lt (ro HO625.out)) k_ hn_)))); replace BK605 := Aside0.mk (blk_kept (bt BK605) hkp (fun hs_ => Or.elim hs_ (fun e_ => (fun e_ => (Kd.R_ne HO635.out BK605.out (by decide)) e_) e_) (fun e_ => (fun e_ => (Kd.R_ne HO638.out BK605.out (by decide)) e_) e_))); replace BK606 := Aside0.mk (blk_kept (bt BK606) hkp (fun hs_ => Or.elim hs_ (fun e_ => (fun e_ => (Kd.R_ne HO635.out BK606.out (by decide)) e_) e_) (fun e_ => (fun e_ => (Kd.R_ne HO638.out BK606.out (by decide)) e_) e_))); replace BK607 := Aside0.mk (blk_kept (bt BK607) hkp (fun hs_ => Or.elim hs_ (fun e_ => (fun e_ => (Kd.R_ne HO635.out BK607.out (by decide)) e_) e_) (fun e_ => (fun e_ => (Kd.R_ne HO638.out BK607.out (by decide)) e_) e_))); replace BK608 := Aside0.mk (blk_kept (bt BK608) hkp (fun hs_ => Or.elim hs_ (fun e_ => (fun e_ => (Kd.R_ne HO635.out BK608.out (by decide)) e_) e_) (fun e_ => (fun e_ => (Kd.R_ne HO638.out BK608.out (by decide)) e_) e_))); replace HO625 := Aside0.mk (Kd.R_mono (ok' := fun k_ => some k_ ≠ (v643 : Value).ownBlock) (Kd.R_keptB (HO625.out) hkp (fun k_ hk_ hs_ => Or.elim hs_ (fun e_ => (hk_.1) e_) (fun e_ => (hk_.2) e_))) (fun k_ hk_ => fun e_ => Or.elim (ho0.1 k_ e_.symm) (fun hs_ => hk_.2.1 hs_) (fun hn_ => Nat.not_le.2 hk_.2.2 hn_))); replace BK641 := Aside0.mk (blk_kept (bt BK641) hkp (fun hs_ => Or.elim hs_ (fun e_ => (fun e_ => (Kd.R_ne HO635.out BK641.out (by decide)) e_) e_) (fun e_ => (fun e_ => (Kd.R_ne HO638.out BK641.out (by decide)) e_) e_))); replace HB := Aside0.mk (hb); clear HO635 HO638; (try clear hb); (try clear hkp); (try clear ho0); obtain ⟨Ao195, co195, eo195⟩ := Kd.R_slice HO644.out; subst eo195; obtain ⟨Ao196, co196, eo196⟩ := Kd.R_slice HO625.out; subst eo196) | ((with_reducible refine gate_callee (f := 78) rfl ?_); refine gL (some 118) Try.func78 #[.slice Ao195 t642.length co195, .slice Ao196 t623.length co196] ?_; (with_reducible refine (impl_Joined.calls kj8 _ _ t642 _ _ t623 t645 _ ?side1 ?side2 ?side3 ?side4 A170.out).mono ?_); (case side1 => exact ca ((Kd.R_reads' HO644.out).2.2)); (case side2 => exact (Kd.R_reads' HO644.out).2.1); (case side3 => exact ca ((Kd.R_reads' HO625.out).2.2)); (case side4 => exact (Kd.R_reads' HO625.out).2.1); rintro e w197 ⟨v646, rfl, ho0, hb⟩; refine ⟨_, rfl, ?_⟩; have HO647 := Aside0.mk (Kd.R_lower (Kd.R_new' (Kd.R_new' ho0 (Kd.R_lt (ro HO625.out))) (Kd.R_lt (ro HO644.out))) (below_size (bo HB))); replace HO625 := Aside0.mk (Kd.R_elder' (ro HO625.out) (Kd.R_base ho0) hb); replace HO644 := Aside0.mk (Kd.R_elder' (ro HO644.out) (Kd.R_base ho0) hb); replace BK605 := bb BK605 hb; replace BK606 := bb BK606 hb; replace BK607 := bb BK607 hb; replace BK608 := bb BK608 hb; replace BK641 := bb BK641 hb; replace HB := bs HB hb; (try clear hb); (try clear ho0)))
      go_ret2
      exact ⟨_, re, ro (Kd.R_mono HO647.out (fun _ hk => trivial)), bo HB⟩

end Go.Proofs.Ytnaccgommclhaaa.QFnExactSquareDots
