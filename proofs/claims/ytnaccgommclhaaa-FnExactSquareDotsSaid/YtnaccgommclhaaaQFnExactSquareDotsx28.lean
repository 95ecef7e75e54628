/- What the law reaches, as plain functions, each with the proof that its call comes to its answer: written by a program for this claim. -/
import Derived.Test.YtnaccgommclhaaaQFnExactSquareDotsx0
import Derived.Test.YtnaccgommclhaaaQFnExactSquareDotsx1
import Derived.Test.YtnaccgommclhaaaQFnExactSquareDotsx13
import Derived.Test.YtnaccgommclhaaaQFnExactSquareDotsx14
import Derived.Test.YtnaccgommclhaaaQFnExactSquareDotsx26
import Derived.Test.YtnaccgommclhaaaQFnExactSquareDotsx27
import Derived.Test.YtnaccgommclhaaaUFnExactSquareDotsV5
namespace Go.Proofs.Ytnaccgommclhaaa.QFnExactSquareDots
open Go.RowKit Go.Proofs.YtnaccgommclhaaaW.PrintWords Go.Proofs.YtnaccgommclhaaaW.PrintLast Go.Proofs.YtnaccgommclhaaaW.PrintMore Go.Proofs.YtnaccgommclhaaaV
attribute [local go_sem] max2_int min2_int max_two min_two max_three min_three max_four min_four   -- for this text's walks alone
set_option linter.unusedVariables false
set_option linter.unusedSimpArgs false
set_option maxHeartbeats 8000000
set_option maxRecDepth 100000

abbrev Y : Bool := true
abbrev Z : Bool := false
/-! ### laws_FnExactSquareDots: function 7 -/
mutual
def laws_FnExactSquareDots.j0 : Nat → Int → Int → Int → Int → List Int → Bool → List Int → Bool → Bool → Int → Int → ByteArray → Int → Int → ByteArray → Bool → Int → Bool → Bool → Int → Int → Int → Int → List Int → Int → Int → Int → Int → List Int → Option (Bool)
 | 0, _, _, _, _, _, _, _, _, _, _, _, _, _, _, _, _, _, _, _, _, _, _, _, _, _, _, _, _, _ => none
 | k + 1, x2, x3, x5, x6, x18, x19, x21, x22, x84, x659000, x659001, x659002, x660000, x660001, x660002, x661000, x661001, x661002, x661003, x662000, x662001, x662002, x662003, x662004, x694000, x694001, x694002, x694003, x694004 => if x84 = true then (some false) else ((laws_toSquare.f k x662000 x662001 x662002 x662003 x662004).bind fun bt709 => ((laws_eqSquare.f k x694000 x694001 x694002 x694003 x694004 bt709.1 bt709.2.1 bt709.2.2.1 bt709.2.2.2.1 bt709.2.2.2.2).bind fun t716 => (if t716 = true then ((laws_markSquare.f k x694000 x694001 x694002 x694003 x694004 1).bind fun bt717 => (if bt717.1 < 0 then (laws_FnExactSquareDots.j1 k x2 x3 x5 x6 x18 x19 x21 true x659000 x659001 x659002 x660000 x660001 x660002 x661000 x661001 x661002 x661003 x662000 x662001 x662002 x662003 x662004) else ((laws_eqIntS.f k x21 x18).bind fun t719 => (if t719 = true then (laws_FnExactSquareDots.j1 k x2 x3 x5 x6 x18 x19 x21 (x22 != x19) x659000 x659001 x659002 x660000 x660001 x660002 x661000 x661001 x661002 x661003 x662000 x662001 x662002 x662003 x662004) else (laws_FnExactSquareDots.j1 k x2 x3 x5 x6 x18 x19 x21 true x659000 x659001 x659002 x660000 x660001 x660002 x661000 x661001 x661002 x661003 x662000 x662001 x662002 x662003 x662004))))) else (some false))))
def laws_FnExactSquareDots.j1 : Nat → Int → Int → Int → Int → List Int → Bool → List Int → Bool → Int → Int → ByteArray → Int → Int → ByteArray → Bool → Int → Bool → Bool → Int → Int → Int → Int → List Int → Option (Bool)
 | 0, _, _, _, _, _, _, _, _, _, _, _, _, _, _, _, _, _, _, _, _, _, _, _ => none
 | k + 1, x2, x3, x5, x6, x18, x19, x21, x105, x659000, x659001, x659002, x660000, x660001, x660002, x661000, x661001, x661002, x661003, x662000, x662001, x662002, x662003, x662004 => if x105 = true then (some false) else ((laws_markIntS.f k x21 1).bind fun bt720 => ((laws_heldIntS.f k bt720.2 1).bind fun t722 => (if t722 < 0 then (some false) else (if t722 = bt720.1 then ((laws_toPic.f x659000 x659001 x659002).bind fun bt723 => ((laws_toPic.f x660000 x660001 x660002).bind fun bt726 => ((laws_toCond.f x661000 x661001 x661002 x661003).bind fun bt729 => ((laws_toSquare.f k x662000 x662001 x662002 x662003 x662004).bind fun bt733 => ((impl_SquareDots.f k bt723.1 bt723.2.1 bt723.2.2 bt726.1 bt726.2.1 bt726.2.2 x2 x3 bt729.1 bt729.2.1 bt729.2.2.1 bt729.2.2.2 x5 x6 bt733.1 bt733.2.1 bt733.2.2.1 bt733.2.2.2.1 bt733.2.2.2.2).bind fun bt740 => ((laws_eqIntS.f k bt740.1 x18).bind fun t744 => (if t744 = true then (laws_FnExactSquareDots.j2 k bt720.2 bt720.1 (bt740.2 != x19)) else (laws_FnExactSquareDots.j2 k bt720.2 bt720.1 true)))))))) else (some false)))))
def laws_FnExactSquareDots.j2 : Nat → List Int → Int → Bool → Option (Bool)
 | 0, _, _, _ => none
 | k + 1, x21, x24, x141 => if x141 = true then (some false) else ((laws_heldIntS.f k x21 1).bind fun t745 => (if t745 < 0 then (some false) else (if t745 = x24 then (some true) else (some false))))
end
def laws_FnExactSquareDots.f (k : Nat) (a0_0 : Int) (a0_1 : Int) (a0_2 : ByteArray) (a1_0 : Int) (a1_1 : Int) (a1_2 : ByteArray) (a2 : Int) (a3 : Int) (a4_0 : Bool) (a4_1 : Int) (a4_2 : Bool) (a4_3 : Bool) (a5 : Int) (a6 : Int) (a7_0 : Int) (a7_1 : Int) (a7_2 : Int) (a7_3 : Int) (l7_4 : List Int) : Option (Bool) := (laws_szPic.f a0_0 a0_1 a0_2 1048576).bind fun t662 => (if t662 < 0 then (some true) else ((laws_szPic.f a1_0 a1_1 a1_2 t662).bind fun t663 => (if t663 < 0 then (some true) else ((laws_szSquare.f a7_0 a7_1 a7_2 a7_3 l7_4 t663).bind fun t664 => (if t664 < 0 then (some true) else ((laws_toPic.f a0_0 a0_1 a0_2).bind fun bt665 => ((laws_toPic.f a1_0 a1_1 a1_2).bind fun bt668 => ((laws_toCond.f a4_0 a4_1 a4_2 a4_3).bind fun bt671 => ((laws_toSquare.f k a7_0 a7_1 a7_2 a7_3 l7_4).bind fun bt675 => ((spec_SquareDots.f k bt665.1 bt665.2.1 bt665.2.2 bt668.1 bt668.2.1 bt668.2.2 a2 a3 bt671.1 bt671.2.1 bt671.2.2.1 bt671.2.2.2 a5 a6 bt675.1 bt675.2.1 bt675.2.2.1 bt675.2.2.2.1 bt675.2.2.2.2).bind fun bt682 => ((laws_toSquare.f k a7_0 a7_1 a7_2 a7_3 l7_4).bind fun bt686 => ((laws_toPic.f a0_0 a0_1 a0_2).bind fun bt694 => ((laws_toPic.f a1_0 a1_1 a1_2).bind fun bt697 => ((laws_toCond.f a4_0 a4_1 a4_2 a4_3).bind fun bt700 => ((impl_SquareDots.f k bt694.1 bt694.2.1 bt694.2.2 bt697.1 bt697.2.1 bt697.2.2 a2 a3 bt700.1 bt700.2.1 bt700.2.2.1 bt700.2.2.2 a5 a6 bt686.1 bt686.2.1 bt686.2.2.1 bt686.2.2.2.1 bt686.2.2.2.2).bind fun bt704 => ((laws_eqIntS.f k bt704.1 bt682.1).bind fun t708 => (if t708 = true then (laws_FnExactSquareDots.j0 k a2 a3 a5 a6 bt682.1 bt682.2 bt704.1 bt704.2 (bt704.2 != bt682.2) a0_0 a0_1 a0_2 a1_0 a1_1 a1_2 a4_0 a4_1 a4_2 a4_3 a7_0 a7_1 a7_2 a7_3 l7_4 bt686.1 bt686.2.1 bt686.2.2.1 bt686.2.2.2.1 bt686.2.2.2.2) else (laws_FnExactSquareDots.j0 k a2 a3 a5 a6 bt682.1 bt682.2 bt704.1 bt704.2 true a0_0 a0_1 a0_2 a1_0 a1_1 a1_2 a4_0 a4_1 a4_2 a4_3 a7_0 a7_1 a7_2 a7_3 l7_4 bt686.1 bt686.2.1 bt686.2.2.1 bt686.2.2.2.1 bt686.2.2.2.2))))))))))))))))))
def laws_FnExactSquareDots.T11 : Bool × List (List Nat × List Nat) := (true, [([], []), ([0], [0]), ([], []), ([2, 1], [2]), ([], []), ([], []), ([], []), ([6, 3], [6]), ([], []), ([], []), ([], []), ([10, 7], [10]), ([1, 3, 4, 5, 7, 8, 9, 11, 11], [1, 3, 4, 5, 7, 8, 9, 11]), ([12], [12]), ([13], [13]), ([13], [13]), ([14, 12, 0, 1, 2, 3, 4, 5, 6, 7, 8, 9, 10, 11, 12, 13, 14], [14]), ([15, 16, 0, 1, 2, 3, 4, 5, 6, 7, 8, 9, 10, 11, 12, 13, 14, 15, 16], [15])])
def laws_FnExactSquareDots.B11 : List Nat := [0, 1, 0, 7, 0, 0, 0, 79, 0, 0, 0, 1231, 4095, 8191, 16383, 16383, 32767, 131071]
theorem laws_FnExactSquareDots.tab11 : rtab .any (opsOf Try.f7 11) = laws_FnExactSquareDots.T11 := by kernel_rfl
theorem laws_FnExactSquareDots.bits11 : waitsOk laws_FnExactSquareDots.T11.2 laws_FnExactSquareDots.B11 = true := by kernel_rfl
def laws_FnExactSquareDots.T13 : Bool × List (List Nat × List Nat) := (true, [([], []), ([0], [0]), ([], []), ([2, 1], [2]), ([], []), ([], []), ([], []), ([6, 3], [6]), ([], []), ([], []), ([], []), ([1, 3, 4, 5, 7, 8, 9, 10, 7], [1, 3, 4, 5, 7, 8, 9, 10]), ([11], [11]), ([12], [12]), ([12], [12]), ([13, 11, 0, 1, 2, 3, 4, 5, 6, 7, 8, 9, 10, 11, 12, 13], [13]), ([14, 15, 0, 1, 2, 3, 4, 5, 6, 7, 8, 9, 10, 11, 12, 13, 14, 15], [14])])
def laws_FnExactSquareDots.B13 : List Nat := [0, 1, 0, 7, 0, 0, 0, 79, 0, 0, 0, 2047, 4095, 8191, 8191, 16383, 65535]
theorem laws_FnExactSquareDots.tab13 : rtab .any (opsOf Try.f7 13) = laws_FnExactSquareDots.T13 := by kernel_rfl
theorem laws_FnExactSquareDots.bits13 : waitsOk laws_FnExactSquareDots.T13.2 laws_FnExactSquareDots.B13 = true := by kernel_rfl
def laws_FnExactSquareDots.T30 : Bool × List (List Nat × List Nat) := (true, [([], []), ([0], [0]), ([], []), ([2, 1], [2]), ([], []), ([], []), ([], []), ([6, 3], [6]), ([], []), ([], []), ([], []), ([10, 7], [10]), ([1, 3, 4, 5, 7, 8, 9, 11, 11], [1, 3, 4, 5, 7, 8, 9, 11]), ([12], [12]), ([13], [13]), ([13], [13]), ([14, 12, 0, 1, 2, 3, 4, 5, 6, 7, 8, 9, 10, 11, 12, 13, 14], [14]), ([15, 16, 0, 1, 2, 3, 4, 5, 6, 7, 8, 9, 10, 11, 12, 13, 14, 15, 16], [15])])
def laws_FnExactSquareDots.B30 : List Nat := [0, 1, 0, 7, 0, 0, 0, 79, 0, 0, 0, 1231, 4095, 8191, 16383, 16383, 32767, 131071]
theorem laws_FnExactSquareDots.tab30 : rtab .any (opsOf Try.f7 30) = laws_FnExactSquareDots.T30 := by kernel_rfl
theorem laws_FnExactSquareDots.bits30 : waitsOk laws_FnExactSquareDots.T30.2 laws_FnExactSquareDots.B30 = true := by kernel_rfl
theorem laws_FnExactSquareDots.calls (k : Nat) (a0_0 : Int) (a0_1 : Int) (a0_2 : ByteArray) (a1_0 : Int) (a1_1 : Int) (a1_2 : ByteArray) (a2 : Int) (a3 : Int) (a4_0 : Bool) (a4_1 : Int) (a4_2 : Bool) (a4_3 : Bool) (a5 : Int) (a6 : Int) (a7_0 : Int) (a7_1 : Int) (a7_2 : Int) (a7_3 : Int) (A7_4 : Option Addr) (c7_4 : Nat) (l7_4 : List Int) (w : World) (hr7_4 : Kd.C (Kd.int .i64) w A7_4 l7_4.length l7_4) (hc7_4 : l7_4.length ≤ c7_4) (h : laws_FnExactSquareDots.f k a0_0 a0_1 a0_2 a1_0 a1_1 a1_2 a2 a3 a4_0 a4_1 a4_2 a4_3 a5 a6 a7_0 a7_1 a7_2 a7_3 l7_4 = some true) :
  Calls Try.prog 7 #[.agg #[.int .i64 a0_0, .int .i64 a0_1, .string a0_2], .agg #[.int .i64 a1_0, .int .i64 a1_1, .string a1_2], .int .i64 a2, .int .i64 a3, .agg #[.bool a4_0, .int .i64 a4_1, .bool a4_2, .bool a4_3], .int .i64 a5, .int .i64 a6, .agg #[.int .i64 a7_0, .int .i64 a7_1, .int .i64 a7_2, .int .i64 a7_3, .slice A7_4 l7_4.length c7_4]] w fun e w' => e = .returned (.bool true) ∧ Below w.heap.size w w' := by
 have hu23 := Try.underlying23
 have hu44 := Try.underlying44
 have hu59 := Try.underlying59
 have hu63 := Try.underlying63
 have HR7_4 := Aside0.mk hr7_4
 have HC7_4 := Aside0.mk hc7_4
 clear hr7_4 hc7_4
 have HB := Aside0.mk (Below.refl w.heap.size w)
 have H := h
 clear h
 unfold laws_FnExactSquareDots.f at H
 replace H := bnd H
 obtain ⟨t662, A9, H⟩ := H
 by_cases c10 : t662 < 0
 ·rw [if_pos c10] at H
  have c10b0 := decide_eq_true c10
  clear c10
  have hfin_ := Option.some.inj H
  go_enter Try.func7, Try.ntmps7
  go_wp2_with (first | ((with_reducible refine gate_dst (N := 8) rfl ?_); refine bx 8 #[.int .i64 a0_0, .int .i64 a0_1, .string a0_2] 23 ?_; intro gb658 hg w11 BK658 hb; have GW658 := ge HB hg; have GE658 := ge HB hg; replace HB := bs HB hb; clear hb hg) | ((with_reducible refine gate_dst (N := 9) rfl ?_); refine bx 9 #[.int .i64 a1_0, .int .i64 a1_1, .string a1_2] 23 ?_; intro gb659 hg w12 BK659 hb; have GW659 := ge HB hg; have GE659 := ge HB hg; have NB658_659 := n1 BK658 hg; have NB659_658 := n2 BK658 hg; replace BK658 := bb BK658 hb; replace HB := bs HB hb; clear hb hg) | ((with_reducible refine gate_dst (N := 12) rfl ?_); refine bx 12 #[.bool a4_0, .int .i64 a4_1, .bool a4_2, .bool a4_3] 44 ?_; intro gb660 hg w13 BK660 hb; have GW660 := ge HB hg; have GE660 := ge HB hg; have NB658_660 := n1 BK658 hg; have NB660_658 := n2 BK658 hg; have NB659_660 := n1 BK659 hg; have NB660_659 := n2 BK659 hg; replace BK658 := bb BK658 hb; replace BK659 := bb BK659 hb; replace HB := bs HB hb; clear hb hg) | ((with_reducible refine gate_dst (N := 15) rfl ?_); refine bx 15 #[.int .i64 a7_0, .int .i64 a7_1, .int .i64 a7_2, .int .i64 a7_3, .slice A7_4 l7_4.length c7_4] 59 ?_; intro gb661 hg w14 BK661 hb; have GW661 := ge HB hg; have GE661 := ge HB hg; have NB658_661 := n1 BK658 hg; have NB661_658 := n2 BK658 hg; have NB659_661 := n1 BK659 hg; have NB661_659 := n2 BK659 hg; have NB660_661 := n1 BK660 hg; have NB661_660 := n2 BK660 hg; replace BK658 := bb BK658 hb; replace BK659 := bb BK659 hb; replace BK660 := bb BK660 hb; replace HB := bs HB hb; clear hb hg; have hnb15 := NB658_659.out; have hnc15 := NB659_658.out; have hnb16 := NB658_660.out; have hnc16 := NB660_658.out; have hnb17 := NB658_661.out; have hnc17 := NB661_658.out; obtain ⟨hcz18_0, hcz18_1, hcz18_2, hfz18_0, hfz18_1, hfz18_2⟩ := cl3 BK658) | ((with_reducible refine gate_callee (f := 9) rfl ?_); refine gL (some 30) Try.func9 #[.agg #[.int .i64 a0_0, .int .i64 a0_1, .string a0_2], .int .i64 1048576] ?_; (with_reducible refine (laws_szPic.calls a0_0 a0_1 a0_2 1048576 t662 _ A9.out).mono ?_); rintro e w19 ⟨rfl, hb⟩; refine ⟨_, rfl, ?_⟩; replace BK658 := bb BK658 hb; replace BK659 := bb BK659 hb; replace BK660 := bb BK660 hb; replace BK661 := bb BK661 hb; replace HB := bs HB hb; (try clear hb)))
  go_ret
  exact ⟨re, bo HB⟩
 ·rw [if_neg c10] at H
  have c10b0 := decide_eq_false c10
  clear c10
  replace H := bnd H
  obtain ⟨t663, A20, H⟩ := H
  by_cases c21 : t663 < 0
  ·rw [if_pos c21] at H
   have c21b0 := decide_eq_true c21
   clear c21
   have hfin_ := Option.some.inj H
   go_enter Try.func7, Try.ntmps7
   go_wp2_with (first | ((with_reducible refine gate_dst (N := 8) rfl ?_); refine bx 8 #[.int .i64 a0_0, .int .i64 a0_1, .string a0_2] 23 ?_; intro gb658 hg w22 BK658 hb; have GW658 := ge HB hg; have GE658 := ge HB hg; replace HB := bs HB hb; clear hb hg) | ((with_reducible refine gate_dst (N := 9) rfl ?_); refine bx 9 #[.int .i64 a1_0, .int .i64 a1_1, .string a1_2] 23 ?_; intro gb659 hg w23 BK659 hb; have GW659 := ge HB hg; have GE659 := ge HB hg; have NB658_659 := n1 BK658 hg; have NB659_658 := n2 BK658 hg; replace BK658 := bb BK658 hb; replace HB := bs HB hb; clear hb hg) | ((with_reducible refine gate_dst (N := 12) rfl ?_); refine bx 12 #[.bool a4_0, .int .i64 a4_1, .bool a4_2, .bool a4_3] 44 ?_; intro gb660 hg w24 BK660 hb; have GW660 := ge HB hg; have GE660 := ge HB hg; have NB658_660 := n1 BK658 hg; have NB660_658 := n2 BK658 hg; have NB659_660 := n1 BK659 hg; have NB660_659 := n2 BK659 hg; replace BK658 := bb BK658 hb; replace BK659 := bb BK659 hb; replace HB := bs HB hb; clear hb hg) | ((with_reducible refine gate_dst (N := 15) rfl ?_); refine bx 15 #[.int .i64 a7_0, .int .i64 a7_1, .int .i64 a7_2, .int .i64 a7_3, .slice A7_4 l7_4.length c7_4] 59 ?_; intro gb661 hg w25 BK661 hb; have GW661 := ge HB hg; have GE661 := ge HB hg; have NB658_661 := n1 BK658 hg; have NB661_658 := n2 BK658 hg; have NB659_661 := n1 BK659 hg; have NB661_659 := n2 BK659 hg; have NB660_661 := n1 BK660 hg; have NB661_660 := n2 BK660 hg; replace BK658 := bb BK658 hb; replace BK659 := bb BK659 hb; replace BK660 := bb BK660 hb; replace HB := bs HB hb; clear hb hg; have hnb26 := NB658_659.out; have hnc26 := NB659_658.out; have hnb27 := NB658_660.out; have hnc27 := NB660_658.out; have hnb28 := NB658_661.out; have hnc28 := NB661_658.out; obtain ⟨hcz29_0, hcz29_1, hcz29_2, hfz29_0, hfz29_1, hfz29_2⟩ := cl3 BK658) | ((with_reducible refine gate_callee (f := 9) rfl ?_); refine gL (some 30) Try.func9 #[.agg #[.int .i64 a0_0, .int .i64 a0_1, .string a0_2], .int .i64 1048576] ?_; (with_reducible refine (laws_szPic.calls a0_0 a0_1 a0_2 1048576 t662 _ A9.out).mono ?_); rintro e w30 ⟨rfl, hb⟩; refine ⟨_, rfl, ?_⟩; replace BK658 := bb BK658 hb; replace BK659 := bb BK659 hb; replace BK660 := bb BK660 hb; replace BK661 := bb BK661 hb; replace HB := bs HB hb; (try clear hb); have hnb31 := NB659_660.out; have hnc31 := NB660_659.out; have hnb32 := NB659_661.out; have hnc32 := NB661_659.out; obtain ⟨hcz33_0, hcz33_1, hcz33_2, hfz33_0, hfz33_1, hfz33_2⟩ := cl3 BK659) | ((with_reducible refine gate_callee (f := 9) rfl ?_); refine gL (some 35) Try.func9 #[.agg #[.int .i64 a1_0, .int .i64 a1_1, .string a1_2], .int .i64 t662] ?_; (with_reducible refine (laws_szPic.calls a1_0 a1_1 a1_2 t662 t663 _ A20.out).mono ?_); rintro e w34 ⟨rfl, hb⟩; refine ⟨_, rfl, ?_⟩; replace BK658 := bb BK658 hb; replace BK659 := bb BK659 hb; replace BK660 := bb BK660 hb; replace BK661 := bb BK661 hb; replace HB := bs HB hb; (try clear hb)))
   go_ret
   exact ⟨re, bo HB⟩
  ·rw [if_neg c21] at H
   have c21b0 := decide_eq_false c21
   clear c21
   replace H := bnd H
   obtain ⟨t664, A35, H⟩ := H
   by_cases c36 : t664 < 0
   ·rw [if_pos c36] at H
    have c36b0 := decide_eq_true c36
    clear c36
    have hfin_ := Option.some.inj H
    go_enter Try.func7, Try.ntmps7
    go_wp2_with (first | ((with_reducible refine gate_dst (N := 8) rfl ?_); refine bx 8 #[.int .i64 a0_0, .int .i64 a0_1, .string a0_2] 23 ?_; intro gb658 hg w37 BK658 hb; have GW658 := ge HB hg; have GE658 := ge HB hg; replace HB := bs HB hb; clear hb hg) | ((with_reducible refine gate_dst (N := 9) rfl ?_); refine bx 9 #[.int .i64 a1_0, .int .i64 a1_1, .string a1_2] 23 ?_; intro gb659 hg w38 BK659 hb; have GW659 := ge HB hg; have GE659 := ge HB hg; have NB658_659 := n1 BK658 hg; have NB659_658 := n2 BK658 hg; replace BK658 := bb BK658 hb; replace HB := bs HB hb; clear hb hg) | ((with_reducible refine gate_dst (N := 12) rfl ?_); refine bx 12 #[.bool a4_0, .int .i64 a4_1, .bool a4_2, .bool a4_3] 44 ?_; intro gb660 hg w39 BK660 hb; have GW660 := ge HB hg; have GE660 := ge HB hg; have NB658_660 := n1 BK658 hg; have NB660_658 := n2 BK658 hg; have NB659_660 := n1 BK659 hg; have NB660_659 := n2 BK659 hg; replace BK658 := bb BK658 hb; replace BK659 := bb BK659 hb; replace HB := bs HB hb; clear hb hg) | ((with_reducible refine gate_dst (N := 15) rfl ?_); refine bx 15 #[.int .i64 a7_0, .int .i64 a7_1, .int .i64 a7_2, .int .i64 a7_3, .slice A7_4 l7_4.length c7_4] 59 ?_; intro gb661 hg w40 BK661 hb; have GW661 := ge HB hg; have GE661 := ge HB hg; have NB658_661 := n1 BK658 hg; have NB661_658 := n2 BK658 hg; have NB659_661 := n1 BK659 hg; have NB661_659 := n2 BK659 hg; have NB660_661 := n1 BK660 hg; have NB661_660 := n2 BK660 hg; replace BK658 := bb BK658 hb; replace BK659 := bb BK659 hb; replace BK660 := bb BK660 hb; replace HB := bs HB hb; clear hb hg; have hnb41 := NB658_659.out; have hnc41 := NB659_658.out; have hnb42 := NB658_660.out; have hnc42 := NB660_658.out; have hnb43 := NB658_661.out; have hnc43 := NB661_658.out; obtain ⟨hcz44_0, hcz44_1, hcz44_2, hfz44_0, hfz44_1, hfz44_2⟩ := cl3 BK658) | ((with_reducible refine gate_callee (f := 9) rfl ?_); refine gL (some 30) Try.func9 #[.agg #[.int .i64 a0_0, .int .i64 a0_1, .string a0_2], .int .i64 1048576] ?_; (with_reducible refine (laws_szPic.calls a0_0 a0_1 a0_2 1048576 t662 _ A9.out).mono ?_); rintro e w45 ⟨rfl, hb⟩; refine ⟨_, rfl, ?_⟩; replace BK658 := bb BK658 hb; replace BK659 := bb BK659 hb; replace BK660 := bb BK660 hb; replace BK661 := bb BK661 hb; replace HB := bs HB hb; (try clear hb); have hnb46 := NB659_660.out; have hnc46 := NB660_659.out; have hnb47 := NB659_661.out; have hnc47 := NB661_659.out; obtain ⟨hcz48_0, hcz48_1, hcz48_2, hfz48_0, hfz48_1, hfz48_2⟩ := cl3 BK659) | ((with_reducible refine gate_callee (f := 9) rfl ?_); refine gL (some 35) Try.func9 #[.agg #[.int .i64 a1_0, .int .i64 a1_1, .string a1_2], .int .i64 t662] ?_; (with_reducible refine (laws_szPic.calls a1_0 a1_1 a1_2 t662 t663 _ A20.out).mono ?_); rintro e w49 ⟨rfl, hb⟩; refine ⟨_, rfl, ?_⟩; replace BK658 := bb BK658 hb; replace BK659 := bb BK659 hb; replace BK660 := bb BK660 hb; replace BK661 := bb BK661 hb; replace HB := bs HB hb; (try clear hb); have hnb50 := NB661_660.out; have hnc50 := NB660_661.out; obtain ⟨hcz51_0, hcz51_1, hcz51_2, hcz51_3, hcz51_4, hfz51_0, hfz51_1, hfz51_2, hfz51_3, hfz51_4⟩ := cl5 BK661) | ((with_reducible refine gate_callee (f := 30) rfl ?_); refine gL (some 40) Try.func30 #[.agg #[.int .i64 a7_0, .int .i64 a7_1, .int .i64 a7_2, .int .i64 a7_3, .slice A7_4 l7_4.length c7_4], .int .i64 t663] ?_; (with_reducible refine (laws_szSquare.calls a7_0 a7_1 a7_2 a7_3 _ _ l7_4 t663 t664 _ ?side1 ?side2 A35.out).mono ?_); (case side1 => exact ca (Kd.C_below HR7_4.out HB.out)); (case side2 => exact HC7_4.out); rintro e w52 ⟨rfl, hb⟩; refine ⟨_, rfl, ?_⟩; replace BK658 := bb BK658 hb; replace BK659 := bb BK659 hb; replace BK660 := bb BK660 hb; replace BK661 := bb BK661 hb; replace HB := bs HB hb; (try clear hb)))
    go_ret
    exact ⟨re, bo HB⟩
   ·rw [if_neg c36] at H
    have c36b0 := decide_eq_false c36
    clear c36
    replace H := bnd H
    obtain ⟨⟨t665, t666, t667⟩, A53, H⟩ := H
    dsimp only at H
    replace H := bnd H
    obtain ⟨⟨t668, t669, t670⟩, A54, H⟩ := H
    dsimp only at H
    replace H := bnd H
    obtain ⟨⟨t671, t672, t673, t674⟩, A55, H⟩ := H
    dsimp only at H
    replace H := bnd H
    obtain ⟨⟨t675, t676, t677, t678, t679⟩, A56, H⟩ := H
    dsimp only at H
    replace H := bnd H
    obtain ⟨⟨t682, t685⟩, A57, H⟩ := H
    dsimp only at H
    replace H := bnd H
    obtain ⟨⟨t686, t687, t688, t689, t690⟩, A58, H⟩ := H
    dsimp only at H
    replace H := bnd H
    obtain ⟨⟨t694, t695, t696⟩, A59, H⟩ := H
    dsimp only at H
    replace H := bnd H
    obtain ⟨⟨t697, t698, t699⟩, A60, H⟩ := H
    dsimp only at H
    replace H := bnd H
    obtain ⟨⟨t700, t701, t702, t703⟩, A61, H⟩ := H
    dsimp only at H
    replace H := bnd H
    obtain ⟨⟨t704, t707⟩, A62, H⟩ := H
    dsimp only at H
    have HC63 := Aside0.mk H
    clear H
    go_enter Try.func7, Try.ntmps7
    try go_wp2_with (first | ((with_reducible refine gate_dst (N := 8) rfl ?_); refine bx 8 #[.int .i64 a0_0, .int .i64 a0_1, .string a0_2] 23 ?_; intro gb658 hg w64 BK658 hb; have GW658 := ge HB hg; have GE658 := ge HB hg; replace HB := bs HB hb; clear hb hg) | ((with_reducible refine gate_dst (N := 9) rfl ?_); refine bx 9 #[.int .i64 a1_0, .int .i64 a1_1, .string a1_2] 23 ?_; intro gb659 hg w65 BK659 hb; have GW659 := ge HB hg; have GE659 := ge HB hg; have NB658_659 := n1 BK658 hg; have NB659_658 := n2 BK658 hg; replace BK658 := bb BK658 hb; replace HB := bs HB hb; clear hb hg) | ((with_reducible refine gate_dst (N := 12) rfl ?_); refine bx 12 #[.bool a4_0, .int .i64 a4_1, .bool a4_2, .bool a4_3] 44 ?_; intro gb660 hg w66 BK660 hb; have GW660 := ge HB hg; have GE660 := ge HB hg; have NB658_660 := n1 BK658 hg; have NB660_658 := n2 BK658 hg; have NB659_660 := n1 BK659 hg; have NB660_659 := n2 BK659 hg; replace BK658 := bb BK658 hb; replace BK659 := bb BK659 hb; replace HB := bs HB hb; clear hb hg) | ((with_reducible refine gate_dst (N := 15) rfl ?_); refine bx 15 #[.int .i64 a7_0, .int .i64 a7_1, .int .i64 a7_2, .int .i64 a7_3, .slice A7_4 l7_4.length c7_4] 59 ?_; intro gb661 hg w67 BK661 hb; have GW661 := ge HB hg; have GE661 := ge HB hg; have NB658_661 := n1 BK658 hg; have NB661_658 := n2 BK658 hg; have NB659_661 := n1 BK659 hg; have NB661_659 := n2 BK659 hg; have NB660_661 := n1 BK660 hg; have NB661_660 := n2 BK660 hg; replace BK658 := bb BK658 hb; replace BK659 := bb BK659 hb; replace BK660 := bb BK660 hb; replace HB := bs HB hb; clear hb hg; have hnb68 := NB658_659.out; have hnc68 := NB659_658.out; have hnb69 := NB658_660.out; have hnc69 := NB660_658.out; have hnb70 := NB658_661.out; have hnc70 := NB661_658.out; obtain ⟨hcz71_0, hcz71_1, hcz71_2, hfz71_0, hfz71_1, hfz71_2⟩ := cl3 BK658) | ((with_reducible refine gate_callee (f := 9) rfl ?_); refine gL (some 30) Try.func9 #[.agg #[.int .i64 a0_0, .int .i64 a0_1, .string a0_2], .int .i64 1048576] ?_; (with_reducible refine (laws_szPic.calls a0_0 a0_1 a0_2 1048576 t662 _ A9.out).mono ?_); rintro e w72 ⟨rfl, hb⟩; refine ⟨_, rfl, ?_⟩; replace BK658 := bb BK658 hb; replace BK659 := bb BK659 hb; replace BK660 := bb BK660 hb; replace BK661 := bb BK661 hb; replace HB := bs HB hb; (try clear hb); have hnb73 := NB659_660.out; have hnc73 := NB660_659.out; have hnb74 := NB659_661.out; have hnc74 := NB661_659.out; obtain ⟨hcz75_0, hcz75_1, hcz75_2, hfz75_0, hfz75_1, hfz75_2⟩ := cl3 BK659) | ((with_reducible refine gate_callee (f := 9) rfl ?_); refine gL (some 35) Try.func9 #[.agg #[.int .i64 a1_0, .int .i64 a1_1, .string a1_2], .int .i64 t662] ?_; (with_reducible refine (laws_szPic.calls a1_0 a1_1 a1_2 t662 t663 _ A20.out).mono ?_); rintro e w76 ⟨rfl, hb⟩; refine ⟨_, rfl, ?_⟩; replace BK658 := bb BK658 hb; replace BK659 := bb BK659 hb; replace BK660 := bb BK660 hb; replace BK661 := bb BK661 hb; replace HB := bs HB hb; (try clear hb); have hnb77 := NB661_660.out; have hnc77 := NB660_661.out; obtain ⟨hcz78_0, hcz78_1, hcz78_2, hcz78_3, hcz78_4, hfz78_0, hfz78_1, hfz78_2, hfz78_3, hfz78_4⟩ := cl5 BK661) | ((with_reducible refine gate_callee (f := 30) rfl ?_); refine gL (some 40) Try.func30 #[.agg #[.int .i64 a7_0, .int .i64 a7_1, .int .i64 a7_2, .int .i64 a7_3, .slice A7_4 l7_4.length c7_4], .int .i64 t663] ?_; (with_reducible refine (laws_szSquare.calls a7_0 a7_1 a7_2 a7_3 _ _ l7_4 t663 t664 _ ?side1 ?side2 A35.out).mono ?_); (case side1 => exact ca (Kd.C_below HR7_4.out HB.out)); (case side2 => exact HC7_4.out); rintro e w79 ⟨rfl, hb⟩; refine ⟨_, rfl, ?_⟩; replace BK658 := bb BK658 hb; replace BK659 := bb BK659 hb; replace BK660 := bb BK660 hb; replace BK661 := bb BK661 hb; replace HB := bs HB hb; (try clear hb)))
    replace BK658 := Aside0.mk (blk_drew BK658.out)
    replace BK659 := Aside0.mk (blk_drew BK659.out)
    replace BK660 := Aside0.mk (blk_drew BK660.out)
    replace BK661 := Aside0.mk (blk_drew BK661.out)
    replace HB := Aside0.mk (below_drew1 HB.out)
    refine start_ (n := 18) (S := fun w' => w'.cell? ⟨gb658, 0, none⟩ = some (.int .i64 a0_0) ∧ w'.cell? ⟨gb658, 1, none⟩ = some (.int .i64 a0_1) ∧ w'.cell? ⟨gb658, 2, none⟩ = some (.string a0_2) ∧ w'.cell? ⟨gb659, 0, none⟩ = some (.int .i64 a1_0) ∧ w'.cell? ⟨gb659, 1, none⟩ = some (.int .i64 a1_1) ∧ w'.cell? ⟨gb659, 2, none⟩ = some (.string a1_2) ∧ w'.cell? ⟨gb660, 0, none⟩ = some (.bool a4_0) ∧ w'.cell? ⟨gb660, 1, none⟩ = some (.int .i64 a4_1) ∧ w'.cell? ⟨gb660, 2, none⟩ = some (.bool a4_2) ∧ w'.cell? ⟨gb660, 3, none⟩ = some (.bool a4_3) ∧ w'.cell? ⟨gb661, 0, none⟩ = some (.int .i64 a7_0) ∧ w'.cell? ⟨gb661, 1, none⟩ = some (.int .i64 a7_1) ∧ w'.cell? ⟨gb661, 2, none⟩ = some (.int .i64 a7_2) ∧ w'.cell? ⟨gb661, 3, none⟩ = some (.int .i64 a7_3) ∧ w'.cell? ⟨gb661, 4, none⟩ = some (.slice A7_4 l7_4.length c7_4)) (ds := []) (ba 18 0) (by kernel_rfl) rfl rfl ⟨bc BK658 0, bc BK658 1, bc BK658 2, bc BK659 0, bc BK659 1, bc BK659 2, bc BK660 0, bc BK660 1, bc BK660 2, bc BK660 3, bc BK661 0, bc BK661 1, bc BK661 2, bc BK661 3, bc BK661 4⟩ (fun hHeld => ?_); refine with_tabW laws_FnExactSquareDots.tab11 laws_FnExactSquareDots.bits11 (fun HT_ HW_ => ?_)
    generalize w79.drew = w80 at BK658 BK659 BK660 BK661 HB hHeld ⊢
    refine pu 4 48 (ba 18 16) ?_
    refine pu 5 49 (ba 18 48) ?_
    refine pu 8 52 (ba 18 304) ?_
    refine pu 9 53 (ba 18 816) ?_
    refine tk 0 44 (ba 18 817) hHeld ?_
    refine tk 2 46 (ba 18 821) hHeld ?_
    refine tk 6 50 (ba 18 885) hHeld ?_
    refine tk 10 54 (ba 18 1909) hHeld ?_
    refine on 1 45 (ba 18 1911) (fun K hK => ?_)
    refine gS Try.func11 #[.agg #[.int .i64 a0_0, .int .i64 a0_1, .string a0_2]] ?_
    with_reducible refine (laws_toPic.calls a0_0 a0_1 a0_2 t665 t666 t667 _ A53.out).mono ?_
    rintro e w81 ⟨rfl, hb⟩
    refine ⟨_, rfl, ?_⟩
    replace BK658 := bb BK658 hb
    replace BK659 := bb BK659 hb
    replace BK660 := bb BK660 hb
    replace BK661 := bb BK661 hb
    replace HB := bs HB hb
    (try clear hb)
    (try clear hb2)
    (try clear hk)
    (try clear hi)
    refine hK.out _ _ ⟨bc BK658 0, bc BK658 1, bc BK658 2, bc BK659 0, bc BK659 1, bc BK659 2, bc BK660 0, bc BK660 1, bc BK660 2, bc BK660 3, bc BK661 0, bc BK661 1, bc BK661 2, bc BK661 3, bc BK661 4⟩ (fun hHeld => ?_)
    clear hK K
    refine nm ?_
    refine on 3 47 (ba 18 1919) (fun K hK => ?_)
    refine gS Try.func11 #[.agg #[.int .i64 a1_0, .int .i64 a1_1, .string a1_2]] ?_
    with_reducible refine (laws_toPic.calls a1_0 a1_1 a1_2 t668 t669 t670 _ A54.out).mono ?_
    rintro e w82 ⟨rfl, hb⟩
    refine ⟨_, rfl, ?_⟩
    replace BK658 := bb BK658 hb
    replace BK659 := bb BK659 hb
    replace BK660 := bb BK660 hb
    replace BK661 := bb BK661 hb
    replace HB := bs HB hb
    (try clear hb)
    (try clear hb2)
    (try clear hk)
    (try clear hi)
    refine hK.out _ _ ⟨bc BK658 0, bc BK658 1, bc BK658 2, bc BK659 0, bc BK659 1, bc BK659 2, bc BK660 0, bc BK660 1, bc BK660 2, bc BK660 3, bc BK661 0, bc BK661 1, bc BK661 2, bc BK661 3, bc BK661 4⟩ (fun hHeld => ?_)
    clear hK K
    refine nm ?_
    refine on 7 51 (ba 18 2047) (fun K hK => ?_)
    refine gS Try.func23 #[.agg #[.bool a4_0, .int .i64 a4_1, .bool a4_2, .bool a4_3]] ?_
    with_reducible refine (laws_toCond.calls a4_0 a4_1 a4_2 a4_3 t671 t672 t673 t674 _ A55.out).mono ?_
    rintro e w83 ⟨rfl, hb⟩
    refine ⟨_, rfl, ?_⟩
    replace BK658 := bb BK658 hb
    replace BK659 := bb BK659 hb
    replace BK660 := bb BK660 hb
    replace BK661 := bb BK661 hb
    replace HB := bs HB hb
    (try clear hb)
    (try clear hb2)
    (try clear hk)
    (try clear hi)
    refine hK.out _ _ ⟨bc BK658 0, bc BK658 1, bc BK658 2, bc BK659 0, bc BK659 1, bc BK659 2, bc BK660 0, bc BK660 1, bc BK660 2, bc BK660 3, bc BK661 0, bc BK661 1, bc BK661 2, bc BK661 3, bc BK661 4⟩ (fun hHeld => ?_)
    clear hK K
    refine nm ?_
    refine on 11 55 (ba 18 4095) (fun K hK => ?_)
    refine gS Try.func32 #[.agg #[.int .i64 a7_0, .int .i64 a7_1, .int .i64 a7_2, .int .i64 a7_3, .slice A7_4 l7_4.length c7_4]] ?_
    with_reducible refine (laws_toSquare.calls k a7_0 a7_1 a7_2 a7_3 _ _ l7_4 t675 t676 t677 t678 t679 _ ?side1 ?side2 A56.out).mono ?_
    (case side1 => exact ca (Kd.C_below HR7_4.out HB.out))
    (case side2 => exact HC7_4.out)
    rintro e w84 ⟨v680, rfl, ho0, hb⟩
    refine ⟨_, rfl, ?_⟩
    have HO681 := Aside0.mk (Kd.R_lower ho0 (below_size (bo HB)))
    replace BK658 := bb BK658 hb
    replace BK659 := bb BK659 hb
    replace BK660 := bb BK660 hb
    replace BK661 := bb BK661 hb
    replace HB := bs HB hb
    (try clear hb)
    (try clear hb2)
    (try clear hk)
    (try clear hi)
    (try clear ho0)
    obtain ⟨Ao85, co85, eo85⟩ := Kd.R_slice HO681.out
    (first | subst eo85 | (injection eo85 with f1_ f2_ f3_; have f4_ := f1_.symm; have f5_ := f3_.symm; clear f1_ f2_ f3_; subst f4_; subst f5_))
    refine hK.out _ _ ⟨bc BK658 0, bc BK658 1, bc BK658 2, bc BK659 0, bc BK659 1, bc BK659 2, bc BK660 0, bc BK660 1, bc BK660 2, bc BK660 3, bc BK661 0, bc BK661 1, bc BK661 2, bc BK661 3, bc BK661 4⟩ (fun hHeld => ?_)
    clear hK K
    refine nm ?_
    refine on 12 56 (ba 18 8191) (fun K hK => ?_)
    refine gS Try.func31 #[.agg #[.int .i64 t665, .int .i64 t666, .string t667], .agg #[.int .i64 t668, .int .i64 t669, .string t670], .int .i64 a2, .int .i64 a3, .agg #[.bool t671, .int .i64 t672, .bool t673, .bool t674], .int .i64 a5, .int .i64 a6, .agg #[.int .i64 t675, .int .i64 t676, .int .i64 t677, .int .i64 t678, .slice Ao85 t679.length co85]] ?_
    with_reducible refine (spec_SquareDots.calls k t665 t666 t667 t668 t669 t670 a2 a3 t671 t672 t673 t674 a5 a6 t675 t676 t677 t678 _ _ t679 t682 t685 _ ?side1 ?side2 A57.out).mono ?_
    (case side1 => exact ca ((Kd.R_reads' HO681.out).2.2))
    (case side2 => exact (Kd.R_reads' HO681.out).2.1)
    rintro e w86 ⟨v683, rfl, ho0, hb⟩
    refine ⟨_, rfl, ?_⟩
    have HO684 := Aside0.mk (Kd.R_lower (Kd.R_new' ho0 (Kd.R_lt (ro HO681.out))) (below_size (bo HB)))
    replace HO681 := Aside0.mk (Kd.R_elder' (ro HO681.out) (Kd.R_base ho0) hb)
    replace BK658 := bb BK658 hb
    replace BK659 := bb BK659 hb
    replace BK660 := bb BK660 hb
    replace BK661 := bb BK661 hb
    replace HB := bs HB hb
    (try clear hb)
    (try clear hb2)
    (try clear hk)
    (try clear hi)
    (try clear ho0)
    refine hK.out _ _ ⟨bc BK658 0, bc BK658 1, bc BK658 2, bc BK659 0, bc BK659 1, bc BK659 2, bc BK660 0, bc BK660 1, bc BK660 2, bc BK660 3, bc BK661 0, bc BK661 1, bc BK661 2, bc BK661 3, bc BK661 4⟩ (fun hHeld => ?_)
    clear hK K
    refine nm ?_
    refine pu 13 43 (ba 18 16383) ?_
    refine pu 14 57 (ba 18 32767) ?_
    refine pu 15 58 (ba 18 65535) ?_
    refine pu 16 18 (ba 18 131071) ?_
    refine pu 17 19 (ba 18 262143) ?_
    refine done_ (done_of HT_.out (by kernel_rfl)) ?_
    obtain ⟨hcz87_0, hcz87_1, hcz87_2, hcz87_3, hcz87_4, hfz87_0, hfz87_1, hfz87_2, hfz87_3, hfz87_4⟩ := cl5 BK661
    try go_wp2_with (first | ((with_reducible refine gate_callee (f := 32) rfl ?_); refine gL (some 60) Try.func32 #[.agg #[.int .i64 a7_0, .int .i64 a7_1, .int .i64 a7_2, .int .i64 a7_3, .slice A7_4 l7_4.length c7_4]] ?_; (with_reducible refine (laws_toSquare.calls k a7_0 a7_1 a7_2 a7_3 _ _ l7_4 t686 t687 t688 t689 t690 _ ?side1 ?side2 A58.out).mono ?_); (case side1 => exact ca (Kd.C_below HR7_4.out HB.out)); (case side2 => exact HC7_4.out); rintro e w88 ⟨v691, rfl, ho0, hb⟩; refine ⟨_, rfl, ?_⟩; have HO692 := Aside0.mk (Kd.R_lower (Kd.R_new' (Kd.R_new' ho0 (Kd.R_lt (ro HO681.out))) (Kd.R_lt (ro HO684.out))) (below_size (bo HB))); replace HO681 := Aside0.mk (Kd.R_elder' (ro HO681.out) (Kd.R_base ho0) hb); replace HO684 := Aside0.mk (Kd.R_elder' (ro HO684.out) (Kd.R_base ho0) hb); replace BK658 := bb BK658 hb; replace BK659 := bb BK659 hb; replace BK660 := bb BK660 hb; replace BK661 := bb BK661 hb; replace HB := bs HB hb; (try clear hb); (try clear ho0)) | ((with_reducible refine gate_dst (N := 20) rfl ?_); refine bx 20 #[.int .i64 0, .int .i64 0, .int .i64 0, .int .i64 0, .slice none 0 0] 63 ?_; intro gb693 hg w89 BK693 hb; have GW693 := ge HB hg; have GE693 := ge HB hg; have NB658_693 := n1 BK658 hg; have NB693_658 := n2 BK658 hg; have NB659_693 := n1 BK659 hg; have NB693_659 := n2 BK659 hg; have NB660_693 := n1 BK660 hg; have NB693_660 := n2 BK660 hg; have NB661_693 := n1 BK661 hg; have NB693_661 := n2 BK661 hg; replace HO681 := Aside0.mk (Kd.R_below (ro HO681.out) hb); replace HO684 := Aside0.mk (Kd.R_below (ro HO684.out) hb); replace HO692 := Aside0.mk (Kd.R_below (ro HO692.out) hb); replace BK658 := bb BK658 hb; replace BK659 := bb BK659 hb; replace BK660 := bb BK660 hb; replace BK661 := bb BK661 hb; replace HB := bs HB hb; clear hb hg; have hnb90 := NB693_658.out; have hnc90 := NB658_693.out; have hnb91 := NB693_659.out; have hnc91 := NB659_693.out; have hnb92 := NB693_660.out; have hnc92 := NB660_693.out; have hnb93 := NB693_661.out; have hnc93 := NB661_693.out; obtain ⟨hcz94_0, hcz94_1, hcz94_2, hcz94_3, hcz94_4, hfz94_0, hfz94_1, hfz94_2, hfz94_3, hfz94_4⟩ := cl5 BK693; obtain ⟨Ao95, co95, eo95⟩ := Kd.R_slice HO692.out; subst eo95))
    have n0_ : Aside0 (Kd.R (Kd.int .i64) 3 (((((w89.setCell ⟨gb693, 0, none⟩ (.int .i64 t686)).setCell ⟨gb693, 1, none⟩ (.int .i64 t687)).setCell ⟨gb693, 2, none⟩ (.int .i64 t688)).setCell ⟨gb693, 3, none⟩ (.int .i64 t689)).setCell ⟨gb693, 4, none⟩ (.slice Ao95 t690.length co95)) w.heap.size (fun k_ => some k_ ≠ (v683 : Value).ownBlock ∧ some k_ ≠ (.slice Ao95 t690.length co95 : Value).ownBlock) (.slice Ao85 t679.length co85) t679) := (ra (Kd.R_mono (Kd.R_far (p := ⟨gb693, 4, none⟩) (Kd.R_far (p := ⟨gb693, 3, none⟩) (Kd.R_far (p := ⟨gb693, 2, none⟩) (Kd.R_far (p := ⟨gb693, 1, none⟩) (Kd.R_far (p := ⟨gb693, 0, none⟩) (Kd.R_types HO681.out BK693.out (by decide)) (fun _ hk => hk.2) (.int .i64 t686)) (fun _ hk => hk.2) (.int .i64 t687)) (fun _ hk => hk.2) (.int .i64 t688)) (fun _ hk => hk.2) (.int .i64 t689)) (fun _ hk => hk.2) (.slice Ao95 t690.length co95)) (fun _ hk => ⟨hk.1.1.2, hk.1.2⟩)))
    have n1_ : Aside0 (Kd.R (Kd.int .i64) 3 (((((w89.setCell ⟨gb693, 0, none⟩ (.int .i64 t686)).setCell ⟨gb693, 1, none⟩ (.int .i64 t687)).setCell ⟨gb693, 2, none⟩ (.int .i64 t688)).setCell ⟨gb693, 3, none⟩ (.int .i64 t689)).setCell ⟨gb693, 4, none⟩ (.slice Ao95 t690.length co95)) w.heap.size (fun k_ => some k_ ≠ (.slice Ao85 t679.length co85 : Value).ownBlock ∧ some k_ ≠ (.slice Ao95 t690.length co95 : Value).ownBlock) v683 t682) := (ra (Kd.R_mono (Kd.R_far (p := ⟨gb693, 4, none⟩) (Kd.R_far (p := ⟨gb693, 3, none⟩) (Kd.R_far (p := ⟨gb693, 2, none⟩) (Kd.R_far (p := ⟨gb693, 1, none⟩) (Kd.R_far (p := ⟨gb693, 0, none⟩) (Kd.R_types HO684.out BK693.out (by decide)) (fun _ hk => hk.2) (.int .i64 t686)) (fun _ hk => hk.2) (.int .i64 t687)) (fun _ hk => hk.2) (.int .i64 t688)) (fun _ hk => hk.2) (.int .i64 t689)) (fun _ hk => hk.2) (.slice Ao95 t690.length co95)) (fun _ hk => ⟨hk.1.1.2, hk.1.2⟩)))
    have n2_ : Aside0 (Kd.R (Kd.int .i64) 3 (((((w89.setCell ⟨gb693, 0, none⟩ (.int .i64 t686)).setCell ⟨gb693, 1, none⟩ (.int .i64 t687)).setCell ⟨gb693, 2, none⟩ (.int .i64 t688)).setCell ⟨gb693, 3, none⟩ (.int .i64 t689)).setCell ⟨gb693, 4, none⟩ (.slice Ao95 t690.length co95)) w.heap.size (fun k_ => some k_ ≠ (.slice Ao85 t679.length co85 : Value).ownBlock ∧ some k_ ≠ (v683 : Value).ownBlock) (.slice Ao95 t690.length co95) t690) := (ra (Kd.R_mono (Kd.R_far (p := ⟨gb693, 4, none⟩) (Kd.R_far (p := ⟨gb693, 3, none⟩) (Kd.R_far (p := ⟨gb693, 2, none⟩) (Kd.R_far (p := ⟨gb693, 1, none⟩) (Kd.R_far (p := ⟨gb693, 0, none⟩) (Kd.R_types HO692.out BK693.out (by decide)) (fun _ hk => hk.2) (.int .i64 t686)) (fun _ hk => hk.2) (.int .i64 t687)) (fun _ hk => hk.2) (.int .i64 t688)) (fun _ hk => hk.2) (.int .i64 t689)) (fun _ hk => hk.2) (.slice Ao95 t690.length co95)) (fun _ hk => ⟨hk.1.1.2, hk.1.2⟩)))
    have n3_ : Aside0 ((((((w89.setCell ⟨gb693, 0, none⟩ (.int .i64 t686)).setCell ⟨gb693, 1, none⟩ (.int .i64 t687)).setCell ⟨gb693, 2, none⟩ (.int .i64 t688)).setCell ⟨gb693, 3, none⟩ (.int .i64 t689)).setCell ⟨gb693, 4, none⟩ (.slice Ao95 t690.length co95)).heap[gb658]? = some (.cells #[.int .i64 a0_0, .int .i64 a0_1, .string a0_2] 23 (0, 0))) := ⟨by (with_reducible repeat (first | refine blk_drewN ?_ _ | refine blk_drew ?_ | refine blk_alloc ?_ _)); refine blk_far ?_ NB658_693.out _; (with_reducible repeat (first | refine blk_drewN ?_ _ | refine blk_drew ?_ | refine blk_alloc ?_ _)); refine blk_far ?_ NB658_693.out _; (with_reducible repeat (first | refine blk_drewN ?_ _ | refine blk_drew ?_ | refine blk_alloc ?_ _)); refine blk_far ?_ NB658_693.out _; (with_reducible repeat (first | refine blk_drewN ?_ _ | refine blk_drew ?_ | refine blk_alloc ?_ _)); refine blk_far ?_ NB658_693.out _; (with_reducible repeat (first | refine blk_drewN ?_ _ | refine blk_drew ?_ | refine blk_alloc ?_ _)); refine blk_far ?_ NB658_693.out _; (with_reducible repeat (first | refine blk_drewN ?_ _ | refine blk_drew ?_ | refine blk_alloc ?_ _)); exact BK658.out⟩
    have n4_ : Aside0 ((((((w89.setCell ⟨gb693, 0, none⟩ (.int .i64 t686)).setCell ⟨gb693, 1, none⟩ (.int .i64 t687)).setCell ⟨gb693, 2, none⟩ (.int .i64 t688)).setCell ⟨gb693, 3, none⟩ (.int .i64 t689)).setCell ⟨gb693, 4, none⟩ (.slice Ao95 t690.length co95)).heap[gb659]? = some (.cells #[.int .i64 a1_0, .int .i64 a1_1, .string a1_2] 23 (0, 0))) := ⟨by (with_reducible repeat (first | refine blk_drewN ?_ _ | refine blk_drew ?_ | refine blk_alloc ?_ _)); refine blk_far ?_ NB659_693.out _; (with_reducible repeat (first | refine blk_drewN ?_ _ | refine blk_drew ?_ | refine blk_alloc ?_ _)); refine blk_far ?_ NB659_693.out _; (with_reducible repeat (first | refine blk_drewN ?_ _ | refine blk_drew ?_ | refine blk_alloc ?_ _)); refine blk_far ?_ NB659_693.out _; (with_reducible repeat (first | refine blk_drewN ?_ _ | refine blk_drew ?_ | refine blk_alloc ?_ _)); refine blk_far ?_ NB659_693.out _; (with_reducible repeat (first | refine blk_drewN ?_ _ | refine blk_drew ?_ | refine blk_alloc ?_ _)); refine blk_far ?_ NB659_693.out _; (with_reducible repeat (first | refine blk_drewN ?_ _ | refine blk_drew ?_ | refine blk_alloc ?_ _)); exact BK659.out⟩
    have n5_ : Aside0 ((((((w89.setCell ⟨gb693, 0, none⟩ (.int .i64 t686)).setCell ⟨gb693, 1, none⟩ (.int .i64 t687)).setCell ⟨gb693, 2, none⟩ (.int .i64 t688)).setCell ⟨gb693, 3, none⟩ (.int .i64 t689)).setCell ⟨gb693, 4, none⟩ (.slice Ao95 t690.length co95)).heap[gb660]? = some (.cells #[.bool a4_0, .int .i64 a4_1, .bool a4_2, .bool a4_3] 44 (0, 0))) := ⟨by (with_reducible repeat (first | refine blk_drewN ?_ _ | refine blk_drew ?_ | refine blk_alloc ?_ _)); refine blk_far ?_ NB660_693.out _; (with_reducible repeat (first | refine blk_drewN ?_ _ | refine blk_drew ?_ | refine blk_alloc ?_ _)); refine blk_far ?_ NB660_693.out _; (with_reducible repeat (first | refine blk_drewN ?_ _ | refine blk_drew ?_ | refine blk_alloc ?_ _)); refine blk_far ?_ NB660_693.out _; (with_reducible repeat (first | refine blk_drewN ?_ _ | refine blk_drew ?_ | refine blk_alloc ?_ _)); refine blk_far ?_ NB660_693.out _; (with_reducible repeat (first | refine blk_drewN ?_ _ | refine blk_drew ?_ | refine blk_alloc ?_ _)); refine blk_far ?_ NB660_693.out _; (with_reducible repeat (first | refine blk_drewN ?_ _ | refine blk_drew ?_ | refine blk_alloc ?_ _)); exact BK660.out⟩
    have n6_ : Aside0 ((((((w89.setCell ⟨gb693, 0, none⟩ (.int .i64 t686)).setCell ⟨gb693, 1, none⟩ (.int .i64 t687)).setCell ⟨gb693, 2, none⟩ (.int .i64 t688)).setCell ⟨gb693, 3, none⟩ (.int .i64 t689)).setCell ⟨gb693, 4, none⟩ (.slice Ao95 t690.length co95)).heap[gb661]? = some (.cells #[.int .i64 a7_0, .int .i64 a7_1, .int .i64 a7_2, .int .i64 a7_3, .slice A7_4 l7_4.length c7_4] 59 (0, 0))) := ⟨by (with_reducible repeat (first | refine blk_drewN ?_ _ | refine blk_drew ?_ | refine blk_alloc ?_ _)); refine blk_far ?_ NB661_693.out _; (with_reducible repeat (first | refine blk_drewN ?_ _ | refine blk_drew ?_ | refine blk_alloc ?_ _)); refine blk_far ?_ NB661_693.out _; (with_reducible repeat (first | refine blk_drewN ?_ _ | refine blk_drew ?_ | refine blk_alloc ?_ _)); refine blk_far ?_ NB661_693.out _; (with_reducible repeat (first | refine blk_drewN ?_ _ | refine blk_drew ?_ | refine blk_alloc ?_ _)); refine blk_far ?_ NB661_693.out _; (with_reducible repeat (first | refine blk_drewN ?_ _ | refine blk_drew ?_ | refine blk_alloc ?_ _)); refine blk_far ?_ NB661_693.out _; (with_reducible repeat (first | refine blk_drewN ?_ _ | refine blk_drew ?_ | refine blk_alloc ?_ _)); exact BK661.out⟩
    have n7_ : Aside0 ((((((w89.setCell ⟨gb693, 0, none⟩ (.int .i64 t686)).setCell ⟨gb693, 1, none⟩ (.int .i64 t687)).setCell ⟨gb693, 2, none⟩ (.int .i64 t688)).setCell ⟨gb693, 3, none⟩ (.int .i64 t689)).setCell ⟨gb693, 4, none⟩ (.slice Ao95 t690.length co95)).heap[gb693]? = some (.cells #[.int .i64 t686, .int .i64 t687, .int .i64 t688, .int .i64 t689, .slice Ao95 t690.length co95] 63 (0, 0))) := ⟨by (with_reducible repeat (first | refine blk_drewN ?_ _ | refine blk_drew ?_ | refine blk_alloc ?_ _)); refine blk_put (cs := #[.int .i64 t686, .int .i64 t687, .int .i64 t688, .int .i64 t689, .slice none 0 0]) ?_ 4 _ rfl; (with_reducible repeat (first | refine blk_drewN ?_ _ | refine blk_drew ?_ | refine blk_alloc ?_ _)); refine blk_put (cs := #[.int .i64 t686, .int .i64 t687, .int .i64 t688, .int .i64 0, .slice none 0 0]) ?_ 3 _ rfl; (with_reducible repeat (first | refine blk_drewN ?_ _ | refine blk_drew ?_ | refine blk_alloc ?_ _)); refine blk_put (cs := #[.int .i64 t686, .int .i64 t687, .int .i64 0, .int .i64 0, .slice none 0 0]) ?_ 2 _ rfl; (with_reducible repeat (first | refine blk_drewN ?_ _ | refine blk_drew ?_ | refine blk_alloc ?_ _)); refine blk_put (cs := #[.int .i64 t686, .int .i64 0, .int .i64 0, .int .i64 0, .slice none 0 0]) ?_ 1 _ rfl; (with_reducible repeat (first | refine blk_drewN ?_ _ | refine blk_drew ?_ | refine blk_alloc ?_ _)); refine blk_put (cs := #[.int .i64 0, .int .i64 0, .int .i64 0, .int .i64 0, .slice none 0 0]) ?_ 0 _ rfl; (with_reducible repeat (first | refine blk_drewN ?_ _ | refine blk_drew ?_ | refine blk_alloc ?_ _)); exact BK693.out⟩
    have n8_ : Aside0 (Below w.heap.size w (((((w89.setCell ⟨gb693, 0, none⟩ (.int .i64 t686)).setCell ⟨gb693, 1, none⟩ (.int .i64 t687)).setCell ⟨gb693, 2, none⟩ (.int .i64 t688)).setCell ⟨gb693, 3, none⟩ (.int .i64 t689)).setCell ⟨gb693, 4, none⟩ (.slice Ao95 t690.length co95))) := bh HB
    (try clear HO681)
    (try clear HO684)
    (try clear HO692)
    (try clear BK658)
    (try clear BK659)
    (try clear BK660)
    (try clear BK661)
    (try clear BK693)
    (try clear HB)
    generalize (((((w89.setCell ⟨gb693, 0, none⟩ (.int .i64 t686)).setCell ⟨gb693, 1, none⟩ (.int .i64 t687)).setCell ⟨gb693, 2, none⟩ (.int .i64 t688)).setCell ⟨gb693, 3, none⟩ (.int .i64 t689)).setCell ⟨gb693, 4, none⟩ (.slice Ao95 t690.length co95)) = w96 at n0_ n1_ n2_ n3_ n4_ n5_ n6_ n7_ n8_ ⊢
    have HO681 := n0_
    have HO684 := n1_
    have HO692 := n2_
    have BK658 := n3_
    have BK659 := n4_
    have BK660 := n5_
    have BK661 := n6_
    have BK693 := n7_
    have HB := n8_
    clear n0_ n1_ n2_ n3_ n4_ n5_ n6_ n7_ n8_
    replace HO681 := Aside0.mk (Kd.R_drew HO681.out)
    replace HO684 := Aside0.mk (Kd.R_drew HO684.out)
    replace HO692 := Aside0.mk (Kd.R_drew HO692.out)
    replace BK658 := Aside0.mk (blk_drew BK658.out)
    replace BK659 := Aside0.mk (blk_drew BK659.out)
    replace BK660 := Aside0.mk (blk_drew BK660.out)
    replace BK661 := Aside0.mk (blk_drew BK661.out)
    replace BK693 := Aside0.mk (blk_drew BK693.out)
    replace HB := Aside0.mk (below_drew1 HB.out)
    refine start_ (n := 17) (S := fun w' => w'.cell? ⟨gb658, 0, none⟩ = some (.int .i64 a0_0) ∧ w'.cell? ⟨gb658, 1, none⟩ = some (.int .i64 a0_1) ∧ w'.cell? ⟨gb658, 2, none⟩ = some (.string a0_2) ∧ w'.cell? ⟨gb659, 0, none⟩ = some (.int .i64 a1_0) ∧ w'.cell? ⟨gb659, 1, none⟩ = some (.int .i64 a1_1) ∧ w'.cell? ⟨gb659, 2, none⟩ = some (.string a1_2) ∧ w'.cell? ⟨gb660, 0, none⟩ = some (.bool a4_0) ∧ w'.cell? ⟨gb660, 1, none⟩ = some (.int .i64 a4_1) ∧ w'.cell? ⟨gb660, 2, none⟩ = some (.bool a4_2) ∧ w'.cell? ⟨gb660, 3, none⟩ = some (.bool a4_3) ∧ w'.cell? ⟨gb693, 0, none⟩ = some (.int .i64 t686) ∧ w'.cell? ⟨gb693, 1, none⟩ = some (.int .i64 t687) ∧ w'.cell? ⟨gb693, 2, none⟩ = some (.int .i64 t688) ∧ w'.cell? ⟨gb693, 3, none⟩ = some (.int .i64 t689) ∧ w'.cell? ⟨gb693, 4, none⟩ = some (.slice Ao95 t690.length co95)) (ds := []) (ba 17 0) (by kernel_rfl) rfl rfl ⟨bc BK658 0, bc BK658 1, bc BK658 2, bc BK659 0, bc BK659 1, bc BK659 2, bc BK660 0, bc BK660 1, bc BK660 2, bc BK660 3, bc BK693 0, bc BK693 1, bc BK693 2, bc BK693 3, bc BK693 4⟩ (fun hHeld => ?_); refine with_tabW laws_FnExactSquareDots.tab13 laws_FnExactSquareDots.bits13 (fun HT_ HW_ => ?_)
    generalize w96.drew = w97 at HO681 HO684 HO692 BK658 BK659 BK660 BK661 BK693 HB hHeld ⊢
    refine pu 4 66 (ba 17 16) ?_
    refine pu 5 67 (ba 17 48) ?_
    refine pu 8 70 (ba 17 304) ?_
    refine pu 9 71 (ba 17 816) ?_
    refine tk 0 62 (ba 17 817) hHeld ?_
    refine tk 2 64 (ba 17 821) hHeld ?_
    refine tk 6 68 (ba 17 885) hHeld ?_
    refine tk 10 72 (ba 17 1909) hHeld ?_
    refine on 1 63 (ba 17 1911) (fun K hK => ?_)
    refine gS Try.func11 #[.agg #[.int .i64 a0_0, .int .i64 a0_1, .string a0_2]] ?_
    with_reducible refine (laws_toPic.calls a0_0 a0_1 a0_2 t694 t695 t696 _ A59.out).mono ?_
    rintro e w98 ⟨rfl, hb⟩
    refine ⟨_, rfl, ?_⟩
    replace HO681 := Aside0.mk (Kd.R_below (ro HO681.out) hb)
    replace HO684 := Aside0.mk (Kd.R_below (ro HO684.out) hb)
    replace HO692 := Aside0.mk (Kd.R_below (ro HO692.out) hb)
    replace BK658 := bb BK658 hb
    replace BK659 := bb BK659 hb
    replace BK660 := bb BK660 hb
    replace BK661 := bb BK661 hb
    replace BK693 := bb BK693 hb
    replace HB := bs HB hb
    (try clear hb)
    (try clear hb2)
    (try clear hk)
    (try clear hi)
    refine hK.out _ _ ⟨bc BK658 0, bc BK658 1, bc BK658 2, bc BK659 0, bc BK659 1, bc BK659 2, bc BK660 0, bc BK660 1, bc BK660 2, bc BK660 3, bc BK693 0, bc BK693 1, bc BK693 2, bc BK693 3, bc BK693 4⟩ (fun hHeld => ?_)
    clear hK K
    refine nm ?_
    refine on 3 65 (ba 17 1919) (fun K hK => ?_)
    refine gS Try.func11 #[.agg #[.int .i64 a1_0, .int .i64 a1_1, .string a1_2]] ?_
    with_reducible refine (laws_toPic.calls a1_0 a1_1 a1_2 t697 t698 t699 _ A60.out).mono ?_
    rintro e w99 ⟨rfl, hb⟩
    refine ⟨_, rfl, ?_⟩
    replace HO681 := Aside0.mk (Kd.R_below (ro HO681.out) hb)
    replace HO684 := Aside0.mk (Kd.R_below (ro HO684.out) hb)
    replace HO692 := Aside0.mk (Kd.R_below (ro HO692.out) hb)
    replace BK658 := bb BK658 hb
    replace BK659 := bb BK659 hb
    replace BK660 := bb BK660 hb
    replace BK661 := bb BK661 hb
    replace BK693 := bb BK693 hb
    replace HB := bs HB hb
    (try clear hb)
    (try clear hb2)
    (try clear hk)
    (try clear hi)
    refine hK.out _ _ ⟨bc BK658 0, bc BK658 1, bc BK658 2, bc BK659 0, bc BK659 1, bc BK659 2, bc BK660 0, bc BK660 1, bc BK660 2, bc BK660 3, bc BK693 0, bc BK693 1, bc BK693 2, bc BK693 3, bc BK693 4⟩ (fun hHeld => ?_)
    clear hK K
    refine nm ?_
    refine on 7 69 (ba 17 2047) (fun K hK => ?_)
    refine gS Try.func23 #[.agg #[.bool a4_0, .int .i64 a4_1, .bool a4_2, .bool a4_3]] ?_
    with_reducible refine (laws_toCond.calls a4_0 a4_1 a4_2 a4_3 t700 t701 t702 t703 _ A61.out).mono ?_
    rintro e w100 ⟨rfl, hb⟩
    refine ⟨_, rfl, ?_⟩
    replace HO681 := Aside0.mk (Kd.R_below (ro HO681.out) hb)
    replace HO684 := Aside0.mk (Kd.R_below (ro HO684.out) hb)
    replace HO692 := Aside0.mk (Kd.R_below (ro HO692.out) hb)
    replace BK658 := bb BK658 hb
    replace BK659 := bb BK659 hb
    replace BK660 := bb BK660 hb
    replace BK661 := bb BK661 hb
    replace BK693 := bb BK693 hb
    replace HB := bs HB hb
    (try clear hb)
    (try clear hb2)
    (try clear hk)
    (try clear hi)
    refine hK.out _ _ ⟨bc BK658 0, bc BK658 1, bc BK658 2, bc BK659 0, bc BK659 1, bc BK659 2, bc BK660 0, bc BK660 1, bc BK660 2, bc BK660 3, bc BK693 0, bc BK693 1, bc BK693 2, bc BK693 3, bc BK693 4⟩ (fun hHeld => ?_)
    clear hK K
    refine nm ?_
    refine on 11 73 (ba 17 4095) (fun K hK => ?_)
    refine gS Try.func33 #[.agg #[.int .i64 t694, .int .i64 t695, .string t696], .agg #[.int .i64 t697, .int .i64 t698, .string t699], .int .i64 a2, .int .i64 a3, .agg #[.bool t700, .int .i64 t701, .bool t702, .bool t703], .int .i64 a5, .int .i64 a6, .agg #[.int .i64 t686, .int .i64 t687, .int .i64 t688, .int .i64 t689, .slice Ao95 t690.length co95]] ?_
    with_reducible refine (impl_SquareDots.calls k t694 t695 t696 t697 t698 t699 a2 a3 t700 t701 t702 t703 a5 a6 t686 t687 t688 t689 _ _ t690 t704 t707 _ ?side1 ?side2 A62.out).mono ?_
    (case side1 => exact ca ((Kd.R_reads' HO692.out).2.2))
    (case side2 => exact (Kd.R_reads' HO692.out).2.1)
    rintro e w101 ⟨v705, rfl, ho0, hb⟩
    refine ⟨_, rfl, ?_⟩
    have HO706 := Aside0.mk (Kd.R_lower (Kd.R_new' (Kd.R_new' (Kd.R_new' ho0 (Kd.R_lt (ro HO681.out))) (Kd.R_lt (ro HO684.out))) (Kd.R_lt (ro HO692.out))) (below_size (bo HB)))
    replace HO681 := Aside0.mk (Kd.R_elder' (ro HO681.out) (Kd.R_base ho0) hb)
    replace HO684 := Aside0.mk (Kd.R_elder' (ro HO684.out) (Kd.R_base ho0) hb)
    replace HO692 := Aside0.mk (Kd.R_elder' (ro HO692.out) (Kd.R_base ho0) hb)
    replace BK658 := bb BK658 hb
    replace BK659 := bb BK659 hb
    replace BK660 := bb BK660 hb
    replace BK661 := bb BK661 hb
    replace BK693 := bb BK693 hb
    replace HB := bs HB hb
    (try clear hb)
    (try clear hb2)
    (try clear hk)
    (try clear hi)
    (try clear ho0)
    refine hK.out _ _ ⟨bc BK658 0, bc BK658 1, bc BK658 2, bc BK659 0, bc BK659 1, bc BK659 2, bc BK660 0, bc BK660 1, bc BK660 2, bc BK660 3, bc BK693 0, bc BK693 1, bc BK693 2, bc BK693 3, bc BK693 4⟩ (fun hHeld => ?_)
    clear hK K
    refine nm ?_
    refine pu 12 61 (ba 17 8191) ?_
    refine pu 13 74 (ba 17 16383) ?_
    refine pu 14 75 (ba 17 32767) ?_
    refine pu 15 21 (ba 17 65535) ?_
    refine pu 16 22 (ba 17 131071) ?_
    refine done_ (done_of HT_.out (by kernel_rfl)) ?_
    go_upto_region 14 with (fail)
    go_cut [84] (fun v84 wc => ∃ (kq : Nat) (x84_62 : Bool), v84 = .bool x84_62 ∧ Aside0 (laws_FnExactSquareDots.j0 kq a2 a3 a5 a6 t682 t685 t704 t707 x84_62 a0_0 a0_1 a0_2 a1_0 a1_1 a1_2 a4_0 a4_1 a4_2 a4_3 a7_0 a7_1 a7_2 a7_3 l7_4 t686 t687 t688 t689 t690 = some true) ∧ Aside0 (kq ≤ k) ∧ Aside0 (Kd.R (Kd.int .i64) 3 wc w.heap.size (fun k_ => some k_ ≠ (v705 : Value).ownBlock ∧ some k_ ≠ ((.slice Ao95 t690.length co95) : Value).ownBlock) v683 t682) ∧ Aside0 (Kd.R (Kd.int .i64) 3 wc w.heap.size (fun k_ => some k_ ≠ (v683 : Value).ownBlock ∧ some k_ ≠ ((.slice Ao95 t690.length co95) : Value).ownBlock) v705 t704) ∧ Aside0 (Kd.R (Kd.int .i64) 3 wc w.heap.size (fun k_ => some k_ ≠ (v683 : Value).ownBlock ∧ some k_ ≠ (v705 : Value).ownBlock) (.slice Ao95 t690.length co95) t690) ∧ Aside0 (wc.heap[gb658]? = some (.cells #[.int .i64 a0_0, .int .i64 a0_1, .string a0_2] 23 (0, 0))) ∧ Aside0 (wc.heap[gb659]? = some (.cells #[.int .i64 a1_0, .int .i64 a1_1, .string a1_2] 23 (0, 0))) ∧ Aside0 (wc.heap[gb660]? = some (.cells #[.bool a4_0, .int .i64 a4_1, .bool a4_2, .bool a4_3] 44 (0, 0))) ∧ Aside0 (wc.heap[gb661]? = some (.cells #[.int .i64 a7_0, .int .i64 a7_1, .int .i64 a7_2, .int .i64 a7_3, (.slice A7_4 l7_4.length c7_4)] 59 (0, 0))) ∧ Aside0 (wc.heap[gb693]? = some (.cells #[.int .i64 t686, .int .i64 t687, .int .i64 t688, .int .i64 t689, (.slice Ao95 t690.length co95)] 63 (0, 0))) ∧ Aside0 (Below w.heap.size w wc))
    case first =>
     have H := HC63.out
     clear HC63
     replace H := bnd H
     obtain ⟨t708, A102, H⟩ := H
     by_cases c103 : t708 = true
     ·subst c103
      rw [if_pos rfl] at H
      have H' := Aside0.mk H
      clear H
      obtain ⟨Ao104, co104, eo104⟩ := Kd.R_slice HO706.out
      subst eo104
      obtain ⟨Ao105, co105, eo105⟩ := Kd.R_slice HO684.out
      subst eo105
      go_wp2_with (first | ((with_reducible refine gate_callee (f := 34) rfl ?_); refine gD (some 78) Try.func34 #[.slice Ao104 t704.length co104, .slice Ao105 t682.length co105] (laws_eqIntS.calls k _ _ t704 _ _ t682 true _ ?side1 ?side2 ?side3 ?side4 A102.out) ?_; (case side1 => exact ca ((Kd.R_reads' HO706.out).2.2)); (case side2 => exact (Kd.R_reads' HO706.out).2.1); (case side3 => exact ca ((Kd.R_reads' HO684.out).2.2)); (case side4 => exact (Kd.R_reads' HO684.out).2.1); intro nd))
      go_meet
      case rel => exact ⟨_, ((t707 != t685)), rv, H', om, (ra (Kd.R_mono HO684.out (fun _ hk => ⟨hk.2, hk.1.2⟩))), (ra (Kd.R_mono HO706.out (fun _ hk => ⟨hk.1.2, hk.2⟩))), (ra (Kd.R_mono HO692.out (fun _ hk => ⟨hk.1.2, hk.2⟩))), bk BK658, bk BK659, bk BK660, bk BK661, bk BK693, bh HB⟩
     ·replace c103 := Bool.eq_false_iff.mpr c103
      subst c103
      rw [if_neg nft] at H
      have H' := Aside0.mk H
      clear H
      obtain ⟨Ao106, co106, eo106⟩ := Kd.R_slice HO706.out
      subst eo106
      obtain ⟨Ao107, co107, eo107⟩ := Kd.R_slice HO684.out
      subst eo107
      go_wp2_with (first | ((with_reducible refine gate_callee (f := 34) rfl ?_); refine gD (some 78) Try.func34 #[.slice Ao106 t704.length co106, .slice Ao107 t682.length co107] (laws_eqIntS.calls k _ _ t704 _ _ t682 false _ ?side1 ?side2 ?side3 ?side4 A102.out) ?_; (case side1 => exact ca ((Kd.R_reads' HO706.out).2.2)); (case side2 => exact (Kd.R_reads' HO706.out).2.1); (case side3 => exact ca ((Kd.R_reads' HO684.out).2.2)); (case side4 => exact (Kd.R_reads' HO684.out).2.1); intro nd))
      go_meet
      case rel => exact ⟨_, (true), rv, H', om, (ra (Kd.R_mono HO684.out (fun _ hk => ⟨hk.2, hk.1.2⟩))), (ra (Kd.R_mono HO706.out (fun _ hk => ⟨hk.1.2, hk.2⟩))), (ra (Kd.R_mono HO692.out (fun _ hk => ⟨hk.1.2, hk.2⟩))), bk BK658, bk BK659, bk BK660, bk BK661, bk BK693, bh HB⟩
    case rest =>
     clear HC63
     try clear hcz87_0 hcz87_1 hcz87_2 hcz87_3 hcz87_4 hfz87_0 hfz87_1 hfz87_2 hfz87_3 hfz87_4
     try clear hcz94_0 hcz94_1 hcz94_2 hcz94_3 hcz94_4 hfz94_0 hfz94_1 hfz94_2 hfz94_3 hfz94_4
     obtain ⟨kq, x84_62, rfl, HA, HJ62, HO_18, HO_21, HO_694004, BK658, BK659, BK660, BK661, BK693, HB⟩ := hcut
     cases kq with
     | zero => exact absurd HA.out (by simp [laws_FnExactSquareDots.j0])
     | succ kj62 =>
      have H := HA.out
      clear HA
      simp only [laws_FnExactSquareDots.j0] at H
      by_cases c108 : x84_62 = true
      ·subst c108
       rw [if_pos rfl] at H
       exact absurd H (by simp)
      ·replace c108 := Bool.eq_false_iff.mpr c108
       subst c108
       rw [if_neg nft] at H
       replace H := bnd H
       obtain ⟨⟨t709, t710, t711, t712, t713⟩, A109, H⟩ := H
       dsimp only at H
       replace H := bnd H
       obtain ⟨t716, A110, H⟩ := H
       by_cases c111 : t716 = true
       ·subst c111
        rw [if_pos rfl] at H
        replace H := bnd H
        obtain ⟨⟨t717, t718⟩, A112, H⟩ := H
        dsimp only at H
        have HC113 := Aside0.mk H
        clear H
        try go_wp2
        replace HO_18 := Aside0.mk (Kd.R_drew HO_18.out)
        replace HO_21 := Aside0.mk (Kd.R_drew HO_21.out)
        replace HO_694004 := Aside0.mk (Kd.R_drew HO_694004.out)
        replace BK658 := Aside0.mk (blk_drew BK658.out)
        replace BK659 := Aside0.mk (blk_drew BK659.out)
        replace BK660 := Aside0.mk (blk_drew BK660.out)
        replace BK661 := Aside0.mk (blk_drew BK661.out)
        replace BK693 := Aside0.mk (blk_drew BK693.out)
        replace HB := Aside0.mk (below_drew1 HB.out)
        refine start_ (n := 5) (S := fun w' => w'.cell? ⟨gb693, 0, none⟩ = some (.int .i64 t686) ∧ w'.cell? ⟨gb693, 1, none⟩ = some (.int .i64 t687) ∧ w'.cell? ⟨gb693, 2, none⟩ = some (.int .i64 t688) ∧ w'.cell? ⟨gb693, 3, none⟩ = some (.int .i64 t689) ∧ w'.cell? ⟨gb693, 4, none⟩ = some (.slice Ao95 t690.length co95) ∧ w'.cell? ⟨gb661, 0, none⟩ = some (.int .i64 a7_0) ∧ w'.cell? ⟨gb661, 1, none⟩ = some (.int .i64 a7_1) ∧ w'.cell? ⟨gb661, 2, none⟩ = some (.int .i64 a7_2) ∧ w'.cell? ⟨gb661, 3, none⟩ = some (.int .i64 a7_3) ∧ w'.cell? ⟨gb661, 4, none⟩ = some (.slice A7_4 l7_4.length c7_4)) (ds := []) (ba 5 0) (by kernel_rfl) rfl rfl ⟨bc BK693 0, bc BK693 1, bc BK693 2, bc BK693 3, bc BK693 4, bc BK661 0, bc BK661 1, bc BK661 2, bc BK661 3, bc BK661 4⟩ (fun hHeld => ?_)
        generalize wc.drew = w114 at HO_18 HO_21 HO_694004 BK658 BK659 BK660 BK661 BK693 HB hHeld ⊢
        refine take_ (i := 0) (N := some 85) (v := ?_) (a' := ?_) (ba 5 1) rfl rfl (by kernel_rfl) (fun _ _ _ h => h) (Or.inl ⟨by rfl, ?_⟩) hHeld ?_ ?_
        rotate_left
        ·rintro w' ⟨s0, s1, s2, s3, s4, s5, s6, s7, s8, s9⟩
         go_simp
         with_reducible rfl
        rotate_left
        ·simp only [Act.put, List.setIfInBounds_toArray, List.set_cons_zero, List.set_cons_succ, i64_w, i32_w]
         rfl
        refine take_ (i := 1) (N := some 86) (v := ?_) (a' := ?_) (ba 5 3) rfl rfl (by kernel_rfl) (fun _ _ _ h => h) (Or.inl ⟨by rfl, ?_⟩) hHeld ?_ ?_
        rotate_left
        ·rintro w' ⟨s0, s1, s2, s3, s4, s5, s6, s7, s8, s9⟩
         go_simp
         with_reducible rfl
        rotate_left
        ·simp only [Act.put, List.setIfInBounds_toArray, List.set_cons_zero, List.set_cons_succ, i64_w, i32_w]
         rfl
        refine one_ (i := 2) (N := some 87) (ba 5 7) rfl rfl (by kernel_rfl) (by decide) (fun K hK => ?_)
        refine gS Try.func32 #[.agg #[.int .i64 a7_0, .int .i64 a7_1, .int .i64 a7_2, .int .i64 a7_3, .slice A7_4 l7_4.length c7_4]] ?_
        with_reducible refine (laws_toSquare.calls kj62 a7_0 a7_1 a7_2 a7_3 _ _ l7_4 t709 t710 t711 t712 t713 _ ?side1 ?side2 A109.out).mono ?_
        (case side1 => exact ca (Kd.C_below HR7_4.out HB.out))
        (case side2 => exact HC7_4.out)
        rintro e w115 ⟨v714, rfl, ho0, hb⟩
        refine ⟨_, rfl, ?_⟩
        have HO715 := Aside0.mk (Kd.R_lower (Kd.R_new' (Kd.R_new' (Kd.R_new' ho0 (Kd.R_lt (ro HO_18.out))) (Kd.R_lt (ro HO_21.out))) (Kd.R_lt (ro HO_694004.out))) (below_size (bo HB)))
        replace HO_18 := Aside0.mk (Kd.R_elder' (ro HO_18.out) (Kd.R_base ho0) hb)
        replace HO_21 := Aside0.mk (Kd.R_elder' (ro HO_21.out) (Kd.R_base ho0) hb)
        replace HO_694004 := Aside0.mk (Kd.R_elder' (ro HO_694004.out) (Kd.R_base ho0) hb)
        replace BK658 := bb BK658 hb
        replace BK659 := bb BK659 hb
        replace BK660 := bb BK660 hb
        replace BK661 := bb BK661 hb
        replace BK693 := bb BK693 hb
        replace HB := bs HB hb
        (try clear hb)
        (try clear hb2)
        (try clear hk)
        (try clear hi)
        (try clear ho0)
        obtain ⟨Ao116, co116, eo116⟩ := Kd.R_slice HO715.out
        (first | subst eo116 | (injection eo116 with f1_ f2_ f3_; have f4_ := f1_.symm; have f5_ := f3_.symm; clear f1_ f2_ f3_; subst f4_; subst f5_))
        refine hK.out _ _ ⟨bc BK693 0, bc BK693 1, bc BK693 2, bc BK693 3, bc BK693 4, bc BK661 0, bc BK661 1, bc BK661 2, bc BK661 3, bc BK661 4⟩ (fun hHeld => ?_)
        clear hK K
        refine nm ?_
        refine one_ (i := 3) (N := some 88) (ba 5 15) rfl rfl (by kernel_rfl) (by decide) (fun K hK => ?_)
        refine gS Try.func35 #[.agg #[.int .i64 t686, .int .i64 t687, .int .i64 t688, .int .i64 t689, .slice Ao95 t690.length co95], .agg #[.int .i64 t709, .int .i64 t710, .int .i64 t711, .int .i64 t712, .slice Ao116 t713.length co116]] ?_
        with_reducible refine (laws_eqSquare.calls kj62 t686 t687 t688 t689 _ _ t690 t709 t710 t711 t712 _ _ t713 true _ ?side1 ?side2 ?side3 ?side4 A110.out).mono ?_
        (case side1 => exact ca ((Kd.R_reads' HO_694004.out).2.2))
        (case side2 => exact (Kd.R_reads' HO_694004.out).2.1)
        (case side3 => exact ca ((Kd.R_reads' HO715.out).2.2))
        (case side4 => exact (Kd.R_reads' HO715.out).2.1)
        rintro e w117 ⟨rfl, hb⟩
        refine ⟨_, rfl, ?_⟩
        replace HO_18 := Aside0.mk (Kd.R_below (ro HO_18.out) hb)
        replace HO_21 := Aside0.mk (Kd.R_below (ro HO_21.out) hb)
        replace HO_694004 := Aside0.mk (Kd.R_below (ro HO_694004.out) hb)
        replace HO715 := Aside0.mk (Kd.R_below (ro HO715.out) hb)
        replace BK658 := bb BK658 hb
        replace BK659 := bb BK659 hb
        replace BK660 := bb BK660 hb
        replace BK661 := bb BK661 hb
        replace BK693 := bb BK693 hb
        replace HB := bs HB hb
        (try clear hb)
        (try clear hb2)
        (try clear hk)
        (try clear hi)
        refine hK.out _ _ ⟨bc BK693 0, bc BK693 1, bc BK693 2, bc BK693 3, bc BK693 4, bc BK661 0, bc BK661 1, bc BK661 2, bc BK661 3, bc BK661 4⟩ (fun hHeld => ?_)
        clear hK K
        refine nm ?_
        refine pure_ (i := 4) (N := some 89) (v := ?_) (a' := ?_) (ba 5 31) rfl rfl (by kernel_rfl) (fun _ _ _ h => h) (Or.inl ⟨by rfl, ?_⟩) ?_ ?_
        rotate_left
        ·intro w'
         go_simp
         with_reducible rfl
        rotate_left
        ·simp only [Act.put, List.setIfInBounds_toArray, List.set_cons_zero, List.set_cons_succ, i64_w, i32_w]
         rfl
        refine done_ (by kernel_rfl) ?_
        have hnb118 := NB693_658.out
        have hnc118 := NB658_693.out
        have hnb119 := NB693_659.out
        have hnc119 := NB659_693.out
        have hnb120 := NB693_660.out
        have hnc120 := NB660_693.out
        have hnb121 := NB693_661.out
        have hnc121 := NB661_693.out
        obtain ⟨hcz122_0, hcz122_1, hcz122_2, hcz122_3, hcz122_4, hfz122_0, hfz122_1, hfz122_2, hfz122_3, hfz122_4⟩ := cl5 BK693
        go_upto_region 20 with (first | ((with_reducible refine gate_callee (f := 36) rfl ?_); refine gL (some 92) Try.func36 #[.agg #[.int .i64 t686, .int .i64 t687, .int .i64 t688, .int .i64 t689, .slice Ao95 t690.length co95], .int .i64 1] ?_; (with_reducible refine (laws_markSquare.calls kj62 t686 t687 t688 t689 (fun k_ => some k_ = (.slice Ao95 t690.length co95 : Value).ownBlock) (.slice Ao95 t690.length co95) t690 1 t717 t718 w _ ?side1 ?side2 A112.out).mono ?_); (case side1 => repeat (first | (with_reducible first | exact HB.out | apply below_alloc | apply pw_below_drewN | apply below_drew1 | refine below_set ?_ GE658.out | refine below_set ?_ GE659.out | refine below_set ?_ GE660.out | refine below_set ?_ GE661.out | refine below_set ?_ GE693.out) | exact HB.out)); (case side2 => exact Kd.R_tight rfl HO_694004.out); rintro e w123 ⟨rfl, hy0, hb, hkp⟩; refine ⟨_, rfl, ?_⟩; replace HO_18 := Aside0.mk (Kd.R_mono (ok' := fun k_ => some k_ ≠ (v705 : Value).ownBlock ∧ some k_ ≠ (.slice Ao95 t690.length co95 : Value).ownBlock ∧ some k_ ≠ (.slice Ao116 t713.length co116 : Value).ownBlock) (Kd.R_keptB (HO_18.out) hkp (fun k_ hk_ hs_ => (hk_.1.2) hs_)) (fun k_ hk_ => ⟨hk_.1.1.1, hk_.1.1.2, hk_.1.2⟩)); replace HO_21 := Aside0.mk (Kd.R_mono (ok' := fun k_ => some k_ ≠ (v683 : Value).ownBlock ∧ some k_ ≠ (.slice Ao95 t690.length co95 : Value).ownBlock ∧ some k_ ≠ (.slice Ao116 t713.length co116 : Value).ownBlock) (Kd.R_keptB (HO_21.out) hkp (fun k_ hk_ hs_ => (hk_.1.2) hs_)) (fun k_ hk_ => ⟨hk_.1.1.1, hk_.1.1.2, hk_.1.2⟩)); replace BK658 := Aside0.mk (blk_kept (bt BK658) hkp (fun hs_ => (fun e_ => (Kd.R_ne HO_694004.out BK658.out (by decide)) e_) hs_)); replace BK659 := Aside0.mk (blk_kept (bt BK659) hkp (fun hs_ => (fun e_ => (Kd.R_ne HO_694004.out BK659.out (by decide)) e_) hs_)); replace BK660 := Aside0.mk (blk_kept (bt BK660) hkp (fun hs_ => (fun e_ => (Kd.R_ne HO_694004.out BK660.out (by decide)) e_) hs_)); replace BK661 := Aside0.mk (blk_kept (bt BK661) hkp (fun hs_ => (fun e_ => (Kd.R_ne HO_694004.out BK661.out (by decide)) e_) hs_)); replace BK693 := Aside0.mk (blk_kept (bt BK693) hkp (fun hs_ => (fun e_ => (Kd.R_ne HO_694004.out BK693.out (by decide)) e_) hs_)); replace HO_694004 := Aside0.mk (Kd.R_reok rfl hy0 (fun k_ e_ => HO_694004.out.1 k_ e_)); replace HO715 := Aside0.mk (Kd.R_mono (ok' := fun k_ => some k_ ≠ (v683 : Value).ownBlock ∧ some k_ ≠ (v705 : Value).ownBlock ∧ some k_ ≠ (.slice Ao95 t690.length co95 : Value).ownBlock) (Kd.R_keptB (HO715.out) hkp (fun k_ hk_ hs_ => (hk_.2) hs_)) (fun k_ hk_ => ⟨hk_.1.1.1.2, hk_.1.1.2, hk_.1.2⟩)); replace HB := Aside0.mk (hb); (try clear hb); (try clear hkp); (try clear hy0)))
        (try simp only [Act.put, List.setIfInBounds_toArray, List.set_cons_zero, List.set_cons_succ])
        go_cut [105] (fun v105 wc => ∃ (kq : Nat) (x105_112 : Bool), v105 = .bool x105_112 ∧ Aside0 (laws_FnExactSquareDots.j1 kq a2 a3 a5 a6 t682 t685 t704 x105_112 a0_0 a0_1 a0_2 a1_0 a1_1 a1_2 a4_0 a4_1 a4_2 a4_3 a7_0 a7_1 a7_2 a7_3 l7_4 = some true) ∧ Aside0 (kq ≤ kj62) ∧ Aside0 (Kd.R (Kd.int .i64) 3 wc w.heap.size (fun k_ => some k_ ≠ (v705 : Value).ownBlock ∧ some k_ ≠ ((.slice Ao95 t690.length co95) : Value).ownBlock) v683 t682) ∧ Aside0 (Kd.R (Kd.int .i64) 3 wc w.heap.size (fun k_ => some k_ ≠ (v683 : Value).ownBlock ∧ some k_ ≠ ((.slice Ao95 t690.length co95) : Value).ownBlock) v705 t704) ∧ Aside0 (Kd.R (Kd.int .i64) 3 wc w.heap.size (fun k_ => some k_ ≠ (v683 : Value).ownBlock ∧ some k_ ≠ (v705 : Value).ownBlock) (.slice Ao95 t690.length co95) t718) ∧ Aside0 (wc.heap[gb658]? = some (.cells #[.int .i64 a0_0, .int .i64 a0_1, .string a0_2] 23 (0, 0))) ∧ Aside0 (wc.heap[gb659]? = some (.cells #[.int .i64 a1_0, .int .i64 a1_1, .string a1_2] 23 (0, 0))) ∧ Aside0 (wc.heap[gb660]? = some (.cells #[.bool a4_0, .int .i64 a4_1, .bool a4_2, .bool a4_3] 44 (0, 0))) ∧ Aside0 (wc.heap[gb661]? = some (.cells #[.int .i64 a7_0, .int .i64 a7_1, .int .i64 a7_2, .int .i64 a7_3, (.slice A7_4 l7_4.length c7_4)] 59 (0, 0))) ∧ Aside0 (wc.heap[gb693]? = some (.cells #[.int .i64 t686, .int .i64 t687, .int .i64 t688, .int .i64 t689, (.slice Ao95 t690.length co95)] 63 (0, 0))) ∧ Aside0 (Below w.heap.size w wc))
        case first =>
         have H := HC113.out
         clear HC113
         by_cases c124 : t717 < 0
         ·rw [if_pos c124] at H
          have c124b0 := decide_eq_true c124
          clear c124
          (first | rw [c124b0] | (simp only [i64_w, i32_w]; rw [c124b0]) | skip)
          have H' := Aside0.mk H
          clear H
          go_wp2
          go_meet
          case rel => exact ⟨_, (true), rv, H', (om1 HJ62.out), (ra (Kd.R_mono HO_18.out (fun _ hk => ⟨hk.1, hk.2.1⟩))), (ra (Kd.R_mono HO_21.out (fun _ hk => ⟨hk.1, hk.2.1⟩))), (ra (Kd.R_mono HO_694004.out (fun _ hk => ⟨hk.1.1, hk.1.2⟩))), bk BK658, bk BK659, bk BK660, bk BK661, bk BK693, bh HB⟩
         ·rw [if_neg c124] at H
          have c124b0 := decide_eq_false c124
          clear c124
          (first | rw [c124b0] | (simp only [i64_w, i32_w]; rw [c124b0]) | skip)
          replace H := bnd H
          obtain ⟨t719, A125, H⟩ := H
          by_cases c126 : t719 = true
          ·subst c126
           rw [if_pos rfl] at H
           have H' := Aside0.mk H
           clear H
           obtain ⟨Ao127, co127, eo127⟩ := Kd.R_slice HO_21.out
           subst eo127
           obtain ⟨Ao128, co128, eo128⟩ := Kd.R_slice HO_18.out
           subst eo128
           go_wp2_with (first | (go_at_call 34; (with_reducible refine (laws_eqIntS.calls kj62 _ _ t704 _ _ t682 true _ ?side1 ?side2 ?side3 ?side4 A125.out).mono ?_); (case side1 => exact ca ((Kd.R_reads' HO_21.out).2.2)); (case side2 => exact (Kd.R_reads' HO_21.out).2.1); (case side3 => exact ca ((Kd.R_reads' HO_18.out).2.2)); (case side4 => exact (Kd.R_reads' HO_18.out).2.1); rintro e w' ⟨rfl, ⟨nd, rfl⟩⟩))
           go_meet
           case rel => exact ⟨_, ((t707 != t685)), rv, H', (om1 HJ62.out), (ra (Kd.R_mono HO_18.out (fun _ hk => ⟨hk.1, hk.2.1⟩))), (ra (Kd.R_mono HO_21.out (fun _ hk => ⟨hk.1, hk.2.1⟩))), (ra (Kd.R_mono HO_694004.out (fun _ hk => ⟨hk.1.1, hk.1.2⟩))), bk BK658, bk BK659, bk BK660, bk BK661, bk BK693, bh HB⟩
          ·replace c126 := Bool.eq_false_iff.mpr c126
           subst c126
           rw [if_neg nft] at H
           have H' := Aside0.mk H
           clear H
           obtain ⟨Ao129, co129, eo129⟩ := Kd.R_slice HO_21.out
           subst eo129
           obtain ⟨Ao130, co130, eo130⟩ := Kd.R_slice HO_18.out
           subst eo130
           go_wp2_with (first | (go_at_call 34; (with_reducible refine (laws_eqIntS.calls kj62 _ _ t704 _ _ t682 false _ ?side1 ?side2 ?side3 ?side4 A125.out).mono ?_); (case side1 => exact ca ((Kd.R_reads' HO_21.out).2.2)); (case side2 => exact (Kd.R_reads' HO_21.out).2.1); (case side3 => exact ca ((Kd.R_reads' HO_18.out).2.2)); (case side4 => exact (Kd.R_reads' HO_18.out).2.1); rintro e w' ⟨rfl, ⟨nd, rfl⟩⟩))
           go_meet
           case rel => exact ⟨_, (true), rv, H', (om1 HJ62.out), (ra (Kd.R_mono HO_18.out (fun _ hk => ⟨hk.1, hk.2.1⟩))), (ra (Kd.R_mono HO_21.out (fun _ hk => ⟨hk.1, hk.2.1⟩))), (ra (Kd.R_mono HO_694004.out (fun _ hk => ⟨hk.1.1, hk.1.2⟩))), bk BK658, bk BK659, bk BK660, bk BK661, bk BK693, bh HB⟩
        case rest =>
         clear HC113
         try clear hcz122_0 hcz122_1 hcz122_2 hcz122_3 hcz122_4 hfz122_0 hfz122_1 hfz122_2 hfz122_3 hfz122_4
         try clear hcz87_0 hcz87_1 hcz87_2 hcz87_3 hcz87_4 hfz87_0 hfz87_1 hfz87_2 hfz87_3 hfz87_4
         try clear hcz94_0 hcz94_1 hcz94_2 hcz94_3 hcz94_4 hfz94_0 hfz94_1 hfz94_2 hfz94_3 hfz94_4
         obtain ⟨kq, x105_112, rfl, HA, HJ112, HO_18, HO_21, HO_694004, BK658, BK659, BK660, BK661, BK693, HB⟩ := hcut
         have hl694004_112 := (Kd.R_reads' HO_694004.out).1
         rw [hl694004_112] at HO_694004
         (try simp only [hl694004_112])
         (try simp only [hl694004_112] at BK658)
         (try simp only [hl694004_112] at BK659)
         (try simp only [hl694004_112] at BK660)
         (try simp only [hl694004_112] at BK661)
         (try simp only [hl694004_112] at BK693)
         (try simp only [hl694004_112] at HO_18)
         (try simp only [hl694004_112] at HO_21)
         cases kq with
         | zero => exact absurd HA.out (by simp [laws_FnExactSquareDots.j1])
         | succ kj112 =>
          have H := HA.out
          clear HA
          simp only [laws_FnExactSquareDots.j1] at H
          by_cases c131 : x105_112 = true
          ·subst c131
           rw [if_pos rfl] at H
           exact absurd H (by simp)
          ·replace c131 := Bool.eq_false_iff.mpr c131
           subst c131
           rw [if_neg nft] at H
           replace H := bnd H
           obtain ⟨⟨t720, t721⟩, A132, H⟩ := H
           dsimp only at H
           replace H := bnd H
           obtain ⟨t722, A133, H⟩ := H
           by_cases c134 : t722 < 0
           ·rw [if_pos c134] at H
            have c134b0 := decide_eq_true c134
            (try (have c134b0h := c134b0; simp only [hl694004_112] at c134b0h))
            clear c134
            exact absurd H (by simp)
           ·rw [if_neg c134] at H
            have c134b0 := decide_eq_false c134
            (try (have c134b0h := c134b0; simp only [hl694004_112] at c134b0h))
            clear c134
            by_cases c137 : t722 = t720
            ·rw [if_pos c137] at H
             obtain ⟨c137b0, c137b1⟩ := eqt c137
             (try (have c137b0h := c137b0; simp only [hl694004_112] at c137b0h))
             (try (have c137b1h := c137b1; simp only [hl694004_112] at c137b1h))
             clear c137
             replace H := bnd H
             obtain ⟨⟨t723, t724, t725⟩, A138, H⟩ := H
             dsimp only at H
             replace H := bnd H
             obtain ⟨⟨t726, t727, t728⟩, A139, H⟩ := H
             dsimp only at H
             replace H := bnd H
             obtain ⟨⟨t729, t730, t731, t732⟩, A140, H⟩ := H
             dsimp only at H
             replace H := bnd H
             obtain ⟨⟨t733, t734, t735, t736, t737⟩, A141, H⟩ := H
             dsimp only at H
             replace H := bnd H
             obtain ⟨⟨t740, t743⟩, A142, H⟩ := H
             dsimp only at H
             have HC143 := Aside0.mk H
             clear H
             obtain ⟨Ao144, co144, eo144⟩ := Kd.R_slice HO_21.out
             subst eo144
             try go_wp2_with (first | ((with_reducible refine gate_callee (f := 37) rfl ?_); refine gL (some 108) Try.func37 #[.slice Ao144 t704.length co144, .int .i64 1] ?_; (with_reducible refine (laws_markIntS.calls kj112 (fun k_ => some k_ = (.slice Ao144 t704.length co144 : Value).ownBlock) (.slice Ao144 t704.length co144) t704 1 t720 t721 w _ ?side1 ?side2 A132.out).mono ?_); (case side1 => repeat (first | (with_reducible first | exact HB.out | apply below_alloc | apply pw_below_drewN | apply below_drew1 | refine below_set ?_ GE658.out | refine below_set ?_ GE659.out | refine below_set ?_ GE660.out | refine below_set ?_ GE661.out | refine below_set ?_ GE693.out) | exact HB.out)); (case side2 => exact Kd.R_tight rfl HO_21.out); rintro e w145 ⟨rfl, hy0, hb, hkp⟩; refine ⟨_, rfl, ?_⟩; replace HO_18 := Aside0.mk (Kd.R_mono (ok' := fun k_ => some k_ ≠ (.slice Ao144 t704.length co144 : Value).ownBlock ∧ some k_ ≠ (.slice Ao95 t718.length co95 : Value).ownBlock) (Kd.R_keptB (HO_18.out) hkp (fun k_ hk_ hs_ => (hk_.1) hs_)) (fun k_ hk_ => ⟨hk_.1.1, hk_.1.2⟩)); replace HO_694004 := Aside0.mk (Kd.R_mono (ok' := fun k_ => some k_ ≠ (v683 : Value).ownBlock ∧ some k_ ≠ (.slice Ao144 t704.length co144 : Value).ownBlock) (Kd.R_keptB (HO_694004.out) hkp (fun k_ hk_ hs_ => (hk_.2) hs_)) (fun k_ hk_ => ⟨hk_.1.1, hk_.1.2⟩)); replace BK658 := Aside0.mk (blk_kept (bt BK658) hkp (fun hs_ => (fun e_ => (Kd.R_ne HO_21.out BK658.out (by decide)) e_) hs_)); replace BK659 := Aside0.mk (blk_kept (bt BK659) hkp (fun hs_ => (fun e_ => (Kd.R_ne HO_21.out BK659.out (by decide)) e_) hs_)); replace BK660 := Aside0.mk (blk_kept (bt BK660) hkp (fun hs_ => (fun e_ => (Kd.R_ne HO_21.out BK660.out (by decide)) e_) hs_)); replace BK661 := Aside0.mk (blk_kept (bt BK661) hkp (fun hs_ => (fun e_ => (Kd.R_ne HO_21.out BK661.out (by decide)) e_) hs_)); replace BK693 := Aside0.mk (blk_kept (bt BK693) hkp (fun hs_ => (fun e_ => (Kd.R_ne HO_21.out BK693.out (by decide)) e_) hs_)); replace HO_21 := Aside0.mk (Kd.R_reok rfl hy0 (fun k_ e_ => HO_21.out.1 k_ e_)); replace HB := Aside0.mk (hb); (try clear hb); (try clear hkp); (try clear hy0)) | ((with_reducible refine gate_callee (f := 38) rfl ?_); refine gD (some 111) Try.func38 #[.slice Ao144 t721.length co144, .int .i64 1] (laws_heldIntS.calls kj112 _ _ t721 1 t722 _ ?side1 ?side2 A133.out) ?_ (hargs := (by (try simp only [List.map_toArray, List.map_cons, List.map_nil]); first | done | (rw [show t721.length = t704.length from (Kd.R_reads' HO_21.out).1.symm] <;> rfl) | rfl | (simp only [List.length_drop, List.length_take]; rfl))); (case side1 => exact ca ((Kd.R_reads' HO_21.out).2.2)); (case side2 => rw [show t721.length = t704.length from (Kd.R_reads' HO_21.out).1.symm]; exact (Kd.R_reads' HO_21.out).2.1); intro nd))
             (try (rw [drewN_self w145]; generalize hq_ : World.drewN w145 _ = w145; have n0_ : Aside0 (Kd.R (Kd.int .i64) 3 w145 w.heap.size (fun k_ => (some k_ ≠ (.slice Ao144 t704.length co144 : Value).ownBlock ∧ some k_ ≠ (.slice Ao95 t718.length co95 : Value).ownBlock)) v683 t682) := ⟨by rw [← hq_]; exact (ro HO_18.out)⟩; have n1_ : Aside0 (Kd.R (Kd.int .i64) 3 w145 w.heap.size (fun k_ => (some k_ ≠ (v683 : Value).ownBlock ∧ some k_ ≠ (.slice Ao95 t718.length co95 : Value).ownBlock)) (.slice Ao144 t704.length co144) t721) := ⟨by rw [← hq_]; exact (ro HO_21.out)⟩; have n2_ : Aside0 (Kd.R (Kd.int .i64) 3 w145 w.heap.size (fun k_ => (some k_ ≠ (v683 : Value).ownBlock ∧ some k_ ≠ (.slice Ao144 t704.length co144 : Value).ownBlock)) (.slice Ao95 t718.length co95) t718) := ⟨by rw [← hq_]; exact (ro HO_694004.out)⟩; have n3_ : Aside0 (w145.heap[gb658]? = some (.cells #[.int .i64 a0_0, .int .i64 a0_1, .string a0_2] 23 (0, 0))) := ⟨by rw [← hq_]; exact (bt BK658)⟩; have n4_ : Aside0 (w145.heap[gb659]? = some (.cells #[.int .i64 a1_0, .int .i64 a1_1, .string a1_2] 23 (0, 0))) := ⟨by rw [← hq_]; exact (bt BK659)⟩; have n5_ : Aside0 (w145.heap[gb660]? = some (.cells #[.bool a4_0, .int .i64 a4_1, .bool a4_2, .bool a4_3] 44 (0, 0))) := ⟨by rw [← hq_]; exact (bt BK660)⟩; have n6_ : Aside0 (w145.heap[gb661]? = some (.cells #[.int .i64 a7_0, .int .i64 a7_1, .int .i64 a7_2, .int .i64 a7_3, .slice A7_4 l7_4.length c7_4] 59 (0, 0))) := ⟨by rw [← hq_]; exact (bt BK661)⟩; have n7_ : Aside0 (w145.heap[gb693]? = some (.cells #[.int .i64 t686, .int .i64 t687, .int .i64 t688, .int .i64 t689, .slice Ao95 t718.length co95] 63 (0, 0))) := ⟨by rw [← hq_]; exact (bt BK693)⟩; have n8_ : Aside0 (Below w.heap.size w w145) := ⟨by rw [← hq_]; exact (bo HB)⟩; clear HO_18 HO_21 HO_694004 BK658 BK659 BK660 BK661 BK693 HB hq_; have HO_18 := n0_; have HO_21 := n1_; have HO_694004 := n2_; have BK658 := n3_; have BK659 := n4_; have BK660 := n5_; have BK661 := n6_; have BK693 := n7_; have HB := n8_; clear n0_ n1_ n2_ n3_ n4_ n5_ n6_ n7_ n8_))
             replace HO_18 := Aside0.mk (Kd.R_drew HO_18.out)
             replace HO_21 := Aside0.mk (Kd.R_drew HO_21.out)
             replace HO_694004 := Aside0.mk (Kd.R_drew HO_694004.out)
             replace BK658 := Aside0.mk (blk_drew BK658.out)
             replace BK659 := Aside0.mk (blk_drew BK659.out)
             replace BK660 := Aside0.mk (blk_drew BK660.out)
             replace BK661 := Aside0.mk (blk_drew BK661.out)
             replace BK693 := Aside0.mk (blk_drew BK693.out)
             replace HB := Aside0.mk (below_drew1 HB.out)
             refine start_ (n := 18) (S := fun w' => w'.cell? ⟨gb658, 0, none⟩ = some (.int .i64 a0_0) ∧ w'.cell? ⟨gb658, 1, none⟩ = some (.int .i64 a0_1) ∧ w'.cell? ⟨gb658, 2, none⟩ = some (.string a0_2) ∧ w'.cell? ⟨gb659, 0, none⟩ = some (.int .i64 a1_0) ∧ w'.cell? ⟨gb659, 1, none⟩ = some (.int .i64 a1_1) ∧ w'.cell? ⟨gb659, 2, none⟩ = some (.string a1_2) ∧ w'.cell? ⟨gb660, 0, none⟩ = some (.bool a4_0) ∧ w'.cell? ⟨gb660, 1, none⟩ = some (.int .i64 a4_1) ∧ w'.cell? ⟨gb660, 2, none⟩ = some (.bool a4_2) ∧ w'.cell? ⟨gb660, 3, none⟩ = some (.bool a4_3) ∧ w'.cell? ⟨gb661, 0, none⟩ = some (.int .i64 a7_0) ∧ w'.cell? ⟨gb661, 1, none⟩ = some (.int .i64 a7_1) ∧ w'.cell? ⟨gb661, 2, none⟩ = some (.int .i64 a7_2) ∧ w'.cell? ⟨gb661, 3, none⟩ = some (.int .i64 a7_3) ∧ w'.cell? ⟨gb661, 4, none⟩ = some (.slice A7_4 l7_4.length c7_4)) (ds := []) (ba 18 0) (by kernel_rfl) rfl rfl ⟨bc BK658 0, bc BK658 1, bc BK658 2, bc BK659 0, bc BK659 1, bc BK659 2, bc BK660 0, bc BK660 1, bc BK660 2, bc BK660 3, bc BK661 0, bc BK661 1, bc BK661 2, bc BK661 3, bc BK661 4⟩ (fun hHeld => ?_); refine with_tabW laws_FnExactSquareDots.tab30 laws_FnExactSquareDots.bits30 (fun HT_ HW_ => ?_)
             generalize w145.drew = w146 at HO_18 HO_21 HO_694004 BK658 BK659 BK660 BK661 BK693 HB hHeld ⊢
             refine pu 4 122 (ba 18 16) ?_
             refine pu 5 123 (ba 18 48) ?_
             refine pu 8 126 (ba 18 304) ?_
             refine pu 9 127 (ba 18 816) ?_
             refine tk 0 118 (ba 18 817) hHeld ?_
             refine tk 2 120 (ba 18 821) hHeld ?_
             refine tk 6 124 (ba 18 885) hHeld ?_
             refine tk 10 128 (ba 18 1909) hHeld ?_
             refine on 1 119 (ba 18 1911) (fun K hK => ?_)
             refine gS Try.func11 #[.agg #[.int .i64 a0_0, .int .i64 a0_1, .string a0_2]] ?_
             with_reducible refine (laws_toPic.calls a0_0 a0_1 a0_2 t723 t724 t725 _ A138.out).mono ?_
             rintro e w147 ⟨rfl, hb⟩
             refine ⟨_, rfl, ?_⟩
             replace HO_18 := Aside0.mk (Kd.R_below (ro HO_18.out) hb)
             replace HO_21 := Aside0.mk (Kd.R_below (ro HO_21.out) hb)
             replace HO_694004 := Aside0.mk (Kd.R_below (ro HO_694004.out) hb)
             replace BK658 := bb BK658 hb
             replace BK659 := bb BK659 hb
             replace BK660 := bb BK660 hb
             replace BK661 := bb BK661 hb
             replace BK693 := bb BK693 hb
             replace HB := bs HB hb
             (try clear hb)
             (try clear hb2)
             (try clear hk)
             (try clear hi)
             refine hK.out _ _ ⟨bc BK658 0, bc BK658 1, bc BK658 2, bc BK659 0, bc BK659 1, bc BK659 2, bc BK660 0, bc BK660 1, bc BK660 2, bc BK660 3, bc BK661 0, bc BK661 1, bc BK661 2, bc BK661 3, bc BK661 4⟩ (fun hHeld => ?_)
             clear hK K
             refine nm ?_
             refine on 3 121 (ba 18 1919) (fun K hK => ?_)
             refine gS Try.func11 #[.agg #[.int .i64 a1_0, .int .i64 a1_1, .string a1_2]] ?_
             with_reducible refine (laws_toPic.calls a1_0 a1_1 a1_2 t726 t727 t728 _ A139.out).mono ?_
             rintro e w148 ⟨rfl, hb⟩
             refine ⟨_, rfl, ?_⟩
             replace HO_18 := Aside0.mk (Kd.R_below (ro HO_18.out) hb)
             replace HO_21 := Aside0.mk (Kd.R_below (ro HO_21.out) hb)
             replace HO_694004 := Aside0.mk (Kd.R_below (ro HO_694004.out) hb)
             replace BK658 := bb BK658 hb
             replace BK659 := bb BK659 hb
             replace BK660 := bb BK660 hb
             replace BK661 := bb BK661 hb
             replace BK693 := bb BK693 hb
             replace HB := bs HB hb
             (try clear hb)
             (try clear hb2)
             (try clear hk)
             (try clear hi)
             refine hK.out _ _ ⟨bc BK658 0, bc BK658 1, bc BK658 2, bc BK659 0, bc BK659 1, bc BK659 2, bc BK660 0, bc BK660 1, bc BK660 2, bc BK660 3, bc BK661 0, bc BK661 1, bc BK661 2, bc BK661 3, bc BK661 4⟩ (fun hHeld => ?_)
             clear hK K
             refine nm ?_
             refine on 7 125 (ba 18 2047) (fun K hK => ?_)
             refine gS Try.func23 #[.agg #[.bool a4_0, .int .i64 a4_1, .bool a4_2, .bool a4_3]] ?_
             with_reducible refine (laws_toCond.calls a4_0 a4_1 a4_2 a4_3 t729 t730 t731 t732 _ A140.out).mono ?_
             rintro e w149 ⟨rfl, hb⟩
             refine ⟨_, rfl, ?_⟩
             replace HO_18 := Aside0.mk (Kd.R_below (ro HO_18.out) hb)
             replace HO_21 := Aside0.mk (Kd.R_below (ro HO_21.out) hb)
             replace HO_694004 := Aside0.mk (Kd.R_below (ro HO_694004.out) hb)
             replace BK658 := bb BK658 hb
             replace BK659 := bb BK659 hb
             replace BK660 := bb BK660 hb
             replace BK661 := bb BK661 hb
             replace BK693 := bb BK693 hb
             replace HB := bs HB hb
             (try clear hb)
             (try clear hb2)
             (try clear hk)
             (try clear hi)
             refine hK.out _ _ ⟨bc BK658 0, bc BK658 1, bc BK658 2, bc BK659 0, bc BK659 1, bc BK659 2, bc BK660 0, bc BK660 1, bc BK660 2, bc BK660 3, bc BK661 0, bc BK661 1, bc BK661 2, bc BK661 3, bc BK661 4⟩ (fun hHeld => ?_)
             clear hK K
             refine nm ?_
             refine on 11 129 (ba 18 4095) (fun K hK => ?_)
             refine gS Try.func32 #[.agg #[.int .i64 a7_0, .int .i64 a7_1, .int .i64 a7_2, .int .i64 a7_3, .slice A7_4 l7_4.length c7_4]] ?_
             with_reducible refine (laws_toSquare.calls kj112 a7_0 a7_1 a7_2 a7_3 _ _ l7_4 t733 t734 t735 t736 t737 _ ?side1 ?side2 A141.out).mono ?_
             (case side1 => exact ca (Kd.C_below HR7_4.out HB.out))
             (case side2 => exact HC7_4.out)
             rintro e w150 ⟨v738, rfl, ho0, hb⟩
             refine ⟨_, rfl, ?_⟩
             have HO739 := Aside0.mk (Kd.R_lower (Kd.R_new' (Kd.R_new' (Kd.R_new' ho0 (Kd.R_lt (ro HO_18.out))) (Kd.R_lt (ro HO_21.out))) (Kd.R_lt (ro HO_694004.out))) (below_size (bo HB)))
             replace HO_18 := Aside0.mk (Kd.R_elder' (ro HO_18.out) (Kd.R_base ho0) hb)
             replace HO_21 := Aside0.mk (Kd.R_elder' (ro HO_21.out) (Kd.R_base ho0) hb)
             replace HO_694004 := Aside0.mk (Kd.R_elder' (ro HO_694004.out) (Kd.R_base ho0) hb)
             replace BK658 := bb BK658 hb
             replace BK659 := bb BK659 hb
             replace BK660 := bb BK660 hb
             replace BK661 := bb BK661 hb
             replace BK693 := bb BK693 hb
             replace HB := bs HB hb
             (try clear hb)
             (try clear hb2)
             (try clear hk)
             (try clear hi)
             (try clear ho0)
             obtain ⟨Ao151, co151, eo151⟩ := Kd.R_slice HO739.out
             (first | subst eo151 | (injection eo151 with f1_ f2_ f3_; have f4_ := f1_.symm; have f5_ := f3_.symm; clear f1_ f2_ f3_; subst f4_; subst f5_))
             refine hK.out _ _ ⟨bc BK658 0, bc BK658 1, bc BK658 2, bc BK659 0, bc BK659 1, bc BK659 2, bc BK660 0, bc BK660 1, bc BK660 2, bc BK660 3, bc BK661 0, bc BK661 1, bc BK661 2, bc BK661 3, bc BK661 4⟩ (fun hHeld => ?_)
             clear hK K
             refine nm ?_
             refine on 12 130 (ba 18 8191) (fun K hK => ?_)
             refine gS Try.func33 #[.agg #[.int .i64 t723, .int .i64 t724, .string t725], .agg #[.int .i64 t726, .int .i64 t727, .string t728], .int .i64 a2, .int .i64 a3, .agg #[.bool t729, .int .i64 t730, .bool t731, .bool t732], .int .i64 a5, .int .i64 a6, .agg #[.int .i64 t733, .int .i64 t734, .int .i64 t735, .int .i64 t736, .slice Ao151 t737.length co151]] ?_
             with_reducible refine (impl_SquareDots.calls kj112 t723 t724 t725 t726 t727 t728 a2 a3 t729 t730 t731 t732 a5 a6 t733 t734 t735 t736 _ _ t737 t740 t743 _ ?side1 ?side2 A142.out).mono ?_
             (case side1 => exact ca ((Kd.R_reads' HO739.out).2.2))
             (case side2 => exact (Kd.R_reads' HO739.out).2.1)
             rintro e w152 ⟨v741, rfl, ho0, hb⟩
             refine ⟨_, rfl, ?_⟩
             have HO742 := Aside0.mk (Kd.R_lower (Kd.R_new' (Kd.R_new' (Kd.R_new' (Kd.R_new' ho0 (Kd.R_lt (ro HO_18.out))) (Kd.R_lt (ro HO_21.out))) (Kd.R_lt (ro HO_694004.out))) (Kd.R_lt (ro HO739.out))) (below_size (bo HB)))
             replace HO_18 := Aside0.mk (Kd.R_elder' (ro HO_18.out) (Kd.R_base ho0) hb)
             replace HO_21 := Aside0.mk (Kd.R_elder' (ro HO_21.out) (Kd.R_base ho0) hb)
             replace HO_694004 := Aside0.mk (Kd.R_elder' (ro HO_694004.out) (Kd.R_base ho0) hb)
             replace HO739 := Aside0.mk (Kd.R_elder' (ro HO739.out) (Kd.R_base ho0) hb)
             replace BK658 := bb BK658 hb
             replace BK659 := bb BK659 hb
             replace BK660 := bb BK660 hb
             replace BK661 := bb BK661 hb
             replace BK693 := bb BK693 hb
             replace HB := bs HB hb
             (try clear hb)
             (try clear hb2)
             (try clear hk)
             (try clear hi)
             (try clear ho0)
             refine hK.out _ _ ⟨bc BK658 0, bc BK658 1, bc BK658 2, bc BK659 0, bc BK659 1, bc BK659 2, bc BK660 0, bc BK660 1, bc BK660 2, bc BK660 3, bc BK661 0, bc BK661 1, bc BK661 2, bc BK661 3, bc BK661 4⟩ (fun hHeld => ?_)
             clear hK K
             refine nm ?_
             refine pu 13 117 (ba 18 16383) ?_
             refine pu 14 131 (ba 18 32767) ?_
             refine pu 15 132 (ba 18 65535) ?_
             refine pu 16 26 (ba 18 131071) ?_
             refine pu 17 27 (ba 18 262143) ?_
             refine done_ (done_of HT_.out (by kernel_rfl)) ?_
             go_upto_region 31 with (fail)
             go_cut [141] (fun v141 wc => ∃ (kq : Nat) (x141_142 : Bool), v141 = .bool x141_142 ∧ Aside0 (laws_FnExactSquareDots.j2 kq t721 t720 x141_142 = some true) ∧ Aside0 (kq ≤ kj112) ∧ Aside0 (Kd.R (Kd.int .i64) 3 wc w.heap.size (fun k_ => some k_ ≠ ((.slice Ao95 t718.length co95) : Value).ownBlock) (.slice Ao144 t704.length co144) t721) ∧ Aside0 (Kd.R (Kd.int .i64) 3 wc w.heap.size (fun k_ => some k_ ≠ ((.slice Ao144 t704.length co144) : Value).ownBlock) (.slice Ao95 t718.length co95) t718) ∧ Aside0 (wc.heap[gb658]? = some (.cells #[.int .i64 a0_0, .int .i64 a0_1, .string a0_2] 23 (0, 0))) ∧ Aside0 (wc.heap[gb659]? = some (.cells #[.int .i64 a1_0, .int .i64 a1_1, .string a1_2] 23 (0, 0))) ∧ Aside0 (wc.heap[gb660]? = some (.cells #[.bool a4_0, .int .i64 a4_1, .bool a4_2, .bool a4_3] 44 (0, 0))) ∧ Aside0 (wc.heap[gb661]? = some (.cells #[.int .i64 a7_0, .int .i64 a7_1, .int .i64 a7_2, .int .i64 a7_3, (.slice A7_4 l7_4.length c7_4)] 59 (0, 0))) ∧ Aside0 (wc.heap[gb693]? = some (.cells #[.int .i64 t686, .int .i64 t687, .int .i64 t688, .int .i64 t689, (.slice Ao95 t718.length co95)] 63 (0, 0))) ∧ Aside0 (Below w.heap.size w wc))
             case first =>
              have H := HC143.out
              clear HC143
              replace H := bnd H
              obtain ⟨t744, A153, H⟩ := H
              by_cases c154 : t744 = true
              ·subst c154
               rw [if_pos rfl] at H
               have H' := Aside0.mk H
               clear H
               obtain ⟨Ao155, co155, eo155⟩ := Kd.R_slice HO742.out
               subst eo155
               obtain ⟨Ao156, co156, eo156⟩ := Kd.R_slice HO_18.out
               subst eo156
               go_wp2_with (first | ((with_reducible refine gate_callee (f := 34) rfl ?_); refine gD (some 135) Try.func34 #[.slice Ao155 t740.length co155, .slice Ao156 t682.length co156] (laws_eqIntS.calls kj112 _ _ t740 _ _ t682 true _ ?side1 ?side2 ?side3 ?side4 A153.out) ?_; (case side1 => exact ca ((Kd.R_reads' HO742.out).2.2)); (case side2 => exact (Kd.R_reads' HO742.out).2.1); (case side3 => exact ca ((Kd.R_reads' HO_18.out).2.2)); (case side4 => exact (Kd.R_reads' HO_18.out).2.1); intro nd))
               go_meet
               case rel => exact ⟨_, ((t743 != t685)), rv, H', ⟨by have := HJ62.out; have := HJ112.out; first | omega | exact Nat.le_refl _⟩, ⟨by (try simp only [hl694004_112]); (with_reducible repeat (first | apply Kd.R_alloc | apply Kd.R_drewN | apply Kd.R_drew)); exact Kd.R_mono HO_21.out (fun _ hk => hk.1.1.2)⟩, ⟨by (try simp only [hl694004_112]); (with_reducible repeat (first | apply Kd.R_alloc | apply Kd.R_drewN | apply Kd.R_drew)); exact Kd.R_mono HO_694004.out (fun _ hk => hk.1.1.2)⟩, ⟨by (try simp only [hl694004_112]); (with_reducible repeat (first | refine blk_drewN ?_ _ | refine blk_drew ?_ | refine blk_alloc ?_ _)); exact BK658.out⟩, ⟨by (try simp only [hl694004_112]); (with_reducible repeat (first | refine blk_drewN ?_ _ | refine blk_drew ?_ | refine blk_alloc ?_ _)); exact BK659.out⟩, ⟨by (try simp only [hl694004_112]); (with_reducible repeat (first | refine blk_drewN ?_ _ | refine blk_drew ?_ | refine blk_alloc ?_ _)); exact BK660.out⟩, ⟨by (try simp only [hl694004_112]); (with_reducible repeat (first | refine blk_drewN ?_ _ | refine blk_drew ?_ | refine blk_alloc ?_ _)); exact BK661.out⟩, ⟨by (try simp only [hl694004_112]); (with_reducible repeat (first | refine blk_drewN ?_ _ | refine blk_drew ?_ | refine blk_alloc ?_ _)); exact BK693.out⟩, bh HB⟩
              ·replace c154 := Bool.eq_false_iff.mpr c154
               subst c154
               rw [if_neg nft] at H
               have H' := Aside0.mk H
               clear H
               obtain ⟨Ao157, co157, eo157⟩ := Kd.R_slice HO742.out
               subst eo157
               obtain ⟨Ao158, co158, eo158⟩ := Kd.R_slice HO_18.out
               subst eo158
               go_wp2_with (first | ((with_reducible refine gate_callee (f := 34) rfl ?_); refine gD (some 135) Try.func34 #[.slice Ao157 t740.length co157, .slice Ao158 t682.length co158] (laws_eqIntS.calls kj112 _ _ t740 _ _ t682 false _ ?side1 ?side2 ?side3 ?side4 A153.out) ?_; (case side1 => exact ca ((Kd.R_reads' HO742.out).2.2)); (case side2 => exact (Kd.R_reads' HO742.out).2.1); (case side3 => exact ca ((Kd.R_reads' HO_18.out).2.2)); (case side4 => exact (Kd.R_reads' HO_18.out).2.1); intro nd))
               go_meet
               case rel => exact ⟨_, (true), rv, H', ⟨by have := HJ62.out; have := HJ112.out; first | omega | exact Nat.le_refl _⟩, ⟨by (try simp only [hl694004_112]); (with_reducible repeat (first | apply Kd.R_alloc | apply Kd.R_drewN | apply Kd.R_drew)); exact Kd.R_mono HO_21.out (fun _ hk => hk.1.1.2)⟩, ⟨by (try simp only [hl694004_112]); (with_reducible repeat (first | apply Kd.R_alloc | apply Kd.R_drewN | apply Kd.R_drew)); exact Kd.R_mono HO_694004.out (fun _ hk => hk.1.1.2)⟩, ⟨by (try simp only [hl694004_112]); (with_reducible repeat (first | refine blk_drewN ?_ _ | refine blk_drew ?_ | refine blk_alloc ?_ _)); exact BK658.out⟩, ⟨by (try simp only [hl694004_112]); (with_reducible repeat (first | refine blk_drewN ?_ _ | refine blk_drew ?_ | refine blk_alloc ?_ _)); exact BK659.out⟩, ⟨by (try simp only [hl694004_112]); (with_reducible repeat (first | refine blk_drewN ?_ _ | refine blk_drew ?_ | refine blk_alloc ?_ _)); exact BK660.out⟩, ⟨by (try simp only [hl694004_112]); (with_reducible repeat (first | refine blk_drewN ?_ _ | refine blk_drew ?_ | refine blk_alloc ?_ _)); exact BK661.out⟩, ⟨by (try simp only [hl694004_112]); (with_reducible repeat (first | refine blk_drewN ?_ _ | refine blk_drew ?_ | refine blk_alloc ?_ _)); exact BK693.out⟩, bh HB⟩
             case rest =>
              clear HC143
              try clear hcz122_0 hcz122_1 hcz122_2 hcz122_3 hcz122_4 hfz122_0 hfz122_1 hfz122_2 hfz122_3 hfz122_4
              try clear hcz87_0 hcz87_1 hcz87_2 hcz87_3 hcz87_4 hfz87_0 hfz87_1 hfz87_2 hfz87_3 hfz87_4
              try clear hcz94_0 hcz94_1 hcz94_2 hcz94_3 hcz94_4 hfz94_0 hfz94_1 hfz94_2 hfz94_3 hfz94_4
              obtain ⟨kq, x141_142, rfl, HA, HJ142, HO_21, HO_694004, BK658, BK659, BK660, BK661, BK693, HB⟩ := hcut
              have hl21_142 := (Kd.R_reads' HO_21.out).1
              rw [hl21_142] at HO_21
              (try simp only [hl21_142])
              (try simp only [hl21_142] at BK658)
              (try simp only [hl21_142] at BK659)
              (try simp only [hl21_142] at BK660)
              (try simp only [hl21_142] at BK661)
              (try simp only [hl21_142] at BK693)
              (try simp only [hl21_142] at HO_694004)
              cases kq with
              | zero => exact absurd HA.out (by simp [laws_FnExactSquareDots.j2])
              | succ kj142 =>
               have H := HA.out
               clear HA
               simp only [laws_FnExactSquareDots.j2] at H
               by_cases c159 : x141_142 = true
               ·subst c159
                rw [if_pos rfl] at H
                exact absurd H (by simp)
               ·replace c159 := Bool.eq_false_iff.mpr c159
                subst c159
                rw [if_neg nft] at H
                replace H := bnd H
                obtain ⟨t745, A160, H⟩ := H
                by_cases c161 : t745 < 0
                ·rw [if_pos c161] at H
                 have c161b0 := decide_eq_true c161
                 (try (have c161b0h := c161b0; simp only [hl694004_112, hl21_142] at c161b0h))
                 clear c161
                 exact absurd H (by simp)
                ·rw [if_neg c161] at H
                 have c161b0 := decide_eq_false c161
                 (try (have c161b0h := c161b0; simp only [hl694004_112, hl21_142] at c161b0h))
                 clear c161
                 by_cases c162 : t745 = t720
                 ·rw [if_pos c162] at H
                  obtain ⟨c162b0, c162b1⟩ := eqt c162
                  (try (have c162b0h := c162b0; simp only [hl694004_112, hl21_142] at c162b0h))
                  (try (have c162b1h := c162b1; simp only [hl694004_112, hl21_142] at c162b1h))
                  clear c162
                  have hfin_ := Option.some.inj H
                  go_wp2_with (first | ((with_reducible refine gate_callee (f := 38) rfl ?_); refine gD (some 144) Try.func38 #[.slice Ao144 t721.length co144, .int .i64 1] (laws_heldIntS.calls kj142 _ _ t721 1 t745 _ ?side1 ?side2 A160.out) ?_; (case side1 => exact ca ((Kd.R_reads' HO_21.out).2.2)); (case side2 => exact (Kd.R_reads' HO_21.out).2.1); intro nd))
                  go_ret
                  exact ⟨re, bo HB⟩
                 ·rw [if_neg c162] at H
                  obtain ⟨c162b0, c162b1⟩ := eqf c162
                  (try (have c162b0h := c162b0; simp only [hl694004_112, hl21_142] at c162b0h))
                  (try (have c162b1h := c162b1; simp only [hl694004_112, hl21_142] at c162b1h))
                  exact absurd H (by simp)
            ·rw [if_neg c137] at H
             obtain ⟨c137b0, c137b1⟩ := eqf c137
             (try (have c137b0h := c137b0; simp only [hl694004_112] at c137b0h))
             (try (have c137b1h := c137b1; simp only [hl694004_112] at c137b1h))
             exact absurd H (by simp)
       ·replace c111 := Bool.eq_false_iff.mpr c111
        subst c111
        rw [if_neg nft] at H
        exact absurd H (by simp)/-- The pure statement of laws_FnExactSquareDots. -/
def laws_FnExactSquareDots.Pure : Prop := ∀ (a0_0 : Int) (a0_1 : Int) (a0_2 : ByteArray) (a1_0 : Int) (a1_1 : Int) (a1_2 : ByteArray) (a2 : Int) (a3 : Int) (a4_0 : Bool) (a4_1 : Int) (a4_2 : Bool) (a4_3 : Bool) (a5 : Int) (a6 : Int) (a7_0 : Int) (a7_1 : Int) (a7_2 : Int) (a7_3 : Int) (l7_4 : List Int), (Lit.int .i64 a0_0).wf = true → (Lit.int .i64 a0_1).wf = true → a0_2.size ≤ maxLen → (Lit.int .i64 a1_0).wf = true → (Lit.int .i64 a1_1).wf = true → a1_2.size ≤ maxLen → (Lit.int .i64 a2).wf = true → (Lit.int .i64 a3).wf = true → (Lit.int .i64 a4_1).wf = true → (Lit.int .i64 a5).wf = true → (Lit.int .i64 a6).wf = true → (Lit.int .i64 a7_0).wf = true → (Lit.int .i64 a7_1).wf = true → (Lit.int .i64 a7_2).wf = true → (Lit.int .i64 a7_3).wf = true → l7_4.length ≤ maxLen → (∀ x ∈ l7_4, (Lit.int .i64 x).wf = true) → ∃ k, laws_FnExactSquareDots.f k a0_0 a0_1 a0_2 a1_0 a1_1 a1_2 a2 a3 a4_0 a4_1 a4_2 a4_3 a5 a6 a7_0 a7_1 a7_2 a7_3 l7_4 = some true
theorem laws_FnExactSquareDots.walk (P : laws_FnExactSquareDots.Pure) (a0_0 : Int) (a0_1 : Int) (a0_2 : ByteArray) (a1_0 : Int) (a1_1 : Int) (a1_2 : ByteArray) (a2 : Int) (a3 : Int) (a4_0 : Bool) (a4_1 : Int) (a4_2 : Bool) (a4_3 : Bool) (a5 : Int) (a6 : Int) (a7_0 : Int) (a7_1 : Int) (a7_2 : Int) (a7_3 : Int) (a7_4 : Option Addr) (len7_4 cap7_4 : Nat) (z7_4 : List Int) (w : World) (w0_0 : (Lit.int .i64 a0_0).wf = true) (w0_1 : (Lit.int .i64 a0_1).wf = true) (w0_2 : a0_2.size ≤ maxLen) (w1_0 : (Lit.int .i64 a1_0).wf = true) (w1_1 : (Lit.int .i64 a1_1).wf = true) (w1_2 : a1_2.size ≤ maxLen) (w2 : (Lit.int .i64 a2).wf = true) (w3 : (Lit.int .i64 a3).wf = true) (w4_1 : (Lit.int .i64 a4_1).wf = true) (w5 : (Lit.int .i64 a5).wf = true) (w6 : (Lit.int .i64 a6).wf = true) (w7_0 : (Lit.int .i64 a7_0).wf = true) (w7_1 : (Lit.int .i64 a7_1).wf = true) (w7_2 : (Lit.int .i64 a7_2).wf = true) (w7_3 : (Lit.int .i64 a7_3).wf = true) (w7_4 : (a7_4 = none ∧ len7_4 = 0 ∧ cap7_4 = 0 ∧ z7_4 = []) ∨ ∃ x, a7_4 = some x ∧ len7_4 ≤ cap7_4 ∧ cap7_4 ≤ maxLen ∧ z7_4.length = cap7_4 ∧ (∀ i, i < z7_4.length → w.cell? (x.add i) = some (.int .i64 (z7_4.getD i 0))) ∧ ∀ n ∈ z7_4, (Lit.int .i64 n).wf = true) :
  Calls Try.prog 7 #[.agg #[.int .i64 a0_0, .int .i64 a0_1, .string a0_2], .agg #[.int .i64 a1_0, .int .i64 a1_1, .string a1_2], .int .i64 a2, .int .i64 a3, .agg #[.bool a4_0, .int .i64 a4_1, .bool a4_2, .bool a4_3], .int .i64 a5, .int .i64 a6, .agg #[.int .i64 a7_0, .int .i64 a7_1, .int .i64 a7_2, .int .i64 a7_3, .slice a7_4 len7_4 cap7_4]] w fun e w' => e = .returned (.bool true) ∧ Below w.heap.size w w' := by
 obtain ⟨l7_4, rfl, hr7_4, hm7_4, hw7_4, hc7_4⟩ := ReadsInt.ofRowC w7_4
 obtain ⟨k, h⟩ := P a0_0 a0_1 a0_2 a1_0 a1_1 a1_2 a2 a3 a4_0 a4_1 a4_2 a4_3 a5 a6 a7_0 a7_1 a7_2 a7_3 l7_4 w0_0 w0_1 w0_2 w1_0 w1_1 w1_2 w2 w3 w4_1 w5 w6 w7_0 w7_1 w7_2 w7_3 hm7_4 hw7_4
 refine (laws_FnExactSquareDots.calls k a0_0 a0_1 a0_2 a1_0 a1_1 a1_2 a2 a3 a4_0 a4_1 a4_2 a4_3 a5 a6 a7_0 a7_1 a7_2 a7_3 _ _ l7_4 w (Kd.C_of_reads (d := (0 : Int)) (h1 := fun _ => rfl) hr7_4) hc7_4 h).mono ?_
 rintro e w' ⟨rfl, hd⟩
 exact ⟨rfl, hd⟩

end Go.Proofs.Ytnaccgommclhaaa.QFnExactSquareDots
