/- What the law reaches, as plain functions, each with the proof that its call comes to its answer: written by a program for this claim. -/
import Derived.Test.YtnaccgommclhaaaQFnExactSquareDotsx0
import Derived.Test.YtnaccgommclhaaaUFnExactSquareDotsV5
namespace Go.Proofs.Ytnaccgommclhaaa.QFnExactSquareDots
open Go.RowKit Go.Proofs.YtnaccgommclhaaaW.PrintWords Go.Proofs.YtnaccgommclhaaaW.PrintLast Go.Proofs.YtnaccgommclhaaaW.PrintMore Go.Proofs.YtnaccgommclhaaaV
attribute [local go_sem] max2_int min2_int max_two min_two max_three min_three max_four min_four   -- for this text's walks alone
set_option linter.unusedVariables false
set_option linter.unusedSimpArgs false
set_option maxHeartbeats 8000000
set_option maxRecDepth 100000

def laws_szPic.f (a0_0 : Int) (a0_1 : Int) (a0_2 : ByteArray) (a1 : Int) : Option (Int) := if (wrap64 (a1 - (a0_2.size : Int))) < 0 then (some (-1)) else (some (wrap64 (a1 - (a0_2.size : Int))))
theorem laws_szPic.calls (a0_0 : Int) (a0_1 : Int) (a0_2 : ByteArray) (a1 : Int) (r : Int) (w : World) (h : laws_szPic.f a0_0 a0_1 a0_2 a1 = some r) :
  Calls Try.prog 9 #[.agg #[.int .i64 a0_0, .int .i64 a0_1, .string a0_2], .int .i64 a1] w fun e w' => e = .returned (.int .i64 r) ∧ Below w.heap.size w w' := by
 have hu23 := Try.underlying23
 have HB := Aside0.mk (Below.refl w.heap.size w)
 have H := h
 clear h
 unfold laws_szPic.f at H
 by_cases c3 : (wrap64 (a1 - (a0_2.size : Int))) < 0
 ·rw [if_pos c3] at H
  have c3b0 := decide_eq_true c3
  clear c3
  obtain rfl := Option.some.inj H
  go_enter Try.func9, Try.ntmps9
  go_wp2_with (first | ((with_reducible refine gate_dst (N := 2) rfl ?_); refine bx 2 #[.int .i64 a0_0, .int .i64 a0_1, .string a0_2] 23 ?_; intro gb101 hg w4 BK101 hb; have GW101 := ge HB hg; have GE101 := ge HB hg; replace HB := bs HB hb; clear hb hg; obtain ⟨hcz5_0, hcz5_1, hcz5_2, hfz5_0, hfz5_1, hfz5_2⟩ := cl3 BK101))
  go_ret
  exact ⟨re, bo HB⟩
 ·rw [if_neg c3] at H
  have c3b0 := decide_eq_false c3
  clear c3
  obtain rfl := Option.some.inj H
  go_enter Try.func9, Try.ntmps9
  go_wp2_with (first | ((with_reducible refine gate_dst (N := 2) rfl ?_); refine bx 2 #[.int .i64 a0_0, .int .i64 a0_1, .string a0_2] 23 ?_; intro gb101 hg w6 BK101 hb; have GW101 := ge HB hg; have GE101 := ge HB hg; replace HB := bs HB hb; clear hb hg; obtain ⟨hcz7_0, hcz7_1, hcz7_2, hfz7_0, hfz7_1, hfz7_2⟩ := cl3 BK101))
  go_ret
  exact ⟨re, bo HB⟩

def laws_toPic.f (a0_0 : Int) (a0_1 : Int) (a0_2 : ByteArray) : Option (Int × Int × ByteArray) := some (a0_0, a0_1, a0_2)
theorem laws_toPic.calls (a0_0 : Int) (a0_1 : Int) (a0_2 : ByteArray) (r1 : Int) (r2 : Int) (r3 : ByteArray) (w : World) (h : laws_toPic.f a0_0 a0_1 a0_2 = some (r1, r2, r3)) :
  Calls Try.prog 11 #[.agg #[.int .i64 a0_0, .int .i64 a0_1, .string a0_2]] w fun e w' => e = .returned (.agg #[.int .i64 r1, .int .i64 r2, .string r3]) ∧ Below w.heap.size w w' := by
 have hu23 := Try.underlying23
 have hu25 := Try.underlying25
 have HB := Aside0.mk (Below.refl w.heap.size w)
 have H := h
 clear h
 unfold laws_toPic.f at H
 simp only [Option.some.injEq, Prod.mk.injEq] at H
 obtain ⟨rfl, rfl, rfl⟩ := H
 go_enter Try.func11, Try.ntmps11
 go_wp2_with (first | ((with_reducible refine gate_dst (N := 1) rfl ?_); refine bx 1 #[.int .i64 a0_0, .int .i64 a0_1, .string a0_2] 23 ?_; intro gb102 hg w2 BK102 hb; have GW102 := ge HB hg; have GE102 := ge HB hg; replace HB := bs HB hb; clear hb hg) | ((with_reducible refine gate_dst (N := 2) rfl ?_); refine bx 2 #[.int .i64 0, .int .i64 0, .string (⟨#[]⟩ : ByteArray)] 25 ?_; intro gb103 hg w3 BK103 hb; have GW103 := ge HB hg; have GE103 := ge HB hg; have NB102_103 := n1 BK102 hg; have NB103_102 := n2 BK102 hg; replace BK102 := bb BK102 hb; replace HB := bs HB hb; clear hb hg) | ((with_reducible refine gate_dst (N := 3) rfl ?_); refine bx 3 #[.int .i64 0, .int .i64 0, .string (⟨#[]⟩ : ByteArray)] 25 ?_; intro gb104 hg w4 BK104 hb; have GW104 := ge HB hg; have GE104 := ge HB hg; have NB102_104 := n1 BK102 hg; have NB104_102 := n2 BK102 hg; have NB103_104 := n1 BK103 hg; have NB104_103 := n2 BK103 hg; replace BK102 := bb BK102 hb; replace BK103 := bb BK103 hb; replace HB := bs HB hb; clear hb hg; have hnb5 := NB102_103.out; have hnc5 := NB103_102.out; have hnb6 := NB102_104.out; have hnc6 := NB104_102.out; obtain ⟨hcz7_0, hcz7_1, hcz7_2, hfz7_0, hfz7_1, hfz7_2⟩ := cl3 BK102; have hnb8 := NB104_103.out; have hnc8 := NB103_104.out; obtain ⟨hcz9_0, hcz9_1, hcz9_2, hfz9_0, hfz9_1, hfz9_2⟩ := cl3 BK104; obtain ⟨hcz10_0, hcz10_1, hcz10_2, hfz10_0, hfz10_1, hfz10_2⟩ := cl3 BK103))
 refine bodyPost_ret (results_cell_row rfl _ _ gb103 25 #[.int .i64 a0_0, .int .i64 a0_1, .string a0_2] (0, 0) _ rfl (by (with_reducible repeat (first | refine blk_drewN ?_ _ | refine blk_drew ?_ | refine blk_alloc ?_ _)); refine blk_put (cs := #[.int .i64 a0_0, .int .i64 a0_1, .string (⟨#[]⟩ : ByteArray)]) ?_ 2 _ rfl; (with_reducible repeat (first | refine blk_drewN ?_ _ | refine blk_drew ?_ | refine blk_alloc ?_ _)); refine blk_put (cs := #[.int .i64 a0_0, .int .i64 0, .string (⟨#[]⟩ : ByteArray)]) ?_ 1 _ rfl; (with_reducible repeat (first | refine blk_drewN ?_ _ | refine blk_drew ?_ | refine blk_alloc ?_ _)); refine blk_put (cs := #[.int .i64 0, .int .i64 0, .string (⟨#[]⟩ : ByteArray)]) ?_ 0 _ rfl; (with_reducible repeat (first | refine blk_drewN ?_ _ | refine blk_drew ?_ | refine blk_alloc ?_ _)); refine blk_far ?_ NB103_104.out _; (with_reducible repeat (first | refine blk_drewN ?_ _ | refine blk_drew ?_ | refine blk_alloc ?_ _)); refine blk_far ?_ NB103_104.out _; (with_reducible repeat (first | refine blk_drewN ?_ _ | refine blk_drew ?_ | refine blk_alloc ?_ _)); refine blk_far ?_ NB103_104.out _; (with_reducible repeat (first | refine blk_drewN ?_ _ | refine blk_drew ?_ | refine blk_alloc ?_ _)); exact BK103.out) Try.underlying25 rfl (by kernel_rfl)) rfl ?_
 exact ⟨re, bo HB⟩

def laws_toCond.f (a0_0 : Bool) (a0_1 : Int) (a0_2 : Bool) (a0_3 : Bool) : Option (Bool × Int × Bool × Bool) := some (a0_0, a0_1, a0_2, a0_3)
theorem laws_toCond.calls (a0_0 : Bool) (a0_1 : Int) (a0_2 : Bool) (a0_3 : Bool) (r1 : Bool) (r2 : Int) (r3 : Bool) (r4 : Bool) (w : World) (h : laws_toCond.f a0_0 a0_1 a0_2 a0_3 = some (r1, r2, r3, r4)) :
  Calls Try.prog 23 #[.agg #[.bool a0_0, .int .i64 a0_1, .bool a0_2, .bool a0_3]] w fun e w' => e = .returned (.agg #[.bool r1, .int .i64 r2, .bool r3, .bool r4]) ∧ Below w.heap.size w w' := by
 have hu44 := Try.underlying44
 have hu50 := Try.underlying50
 have HB := Aside0.mk (Below.refl w.heap.size w)
 have H := h
 clear h
 unfold laws_toCond.f at H
 simp only [Option.some.injEq, Prod.mk.injEq] at H
 obtain ⟨rfl, rfl, rfl, rfl⟩ := H
 go_enter Try.func23, Try.ntmps23
 go_wp2_with (first | ((with_reducible refine gate_dst (N := 1) rfl ?_); refine bx 1 #[.bool a0_0, .int .i64 a0_1, .bool a0_2, .bool a0_3] 44 ?_; intro gb105 hg w2 BK105 hb; have GW105 := ge HB hg; have GE105 := ge HB hg; replace HB := bs HB hb; clear hb hg) | ((with_reducible refine gate_dst (N := 2) rfl ?_); refine bx 2 #[.bool false, .int .i64 0, .bool false, .bool false] 50 ?_; intro gb106 hg w3 BK106 hb; have GW106 := ge HB hg; have GE106 := ge HB hg; have NB105_106 := n1 BK105 hg; have NB106_105 := n2 BK105 hg; replace BK105 := bb BK105 hb; replace HB := bs HB hb; clear hb hg) | ((with_reducible refine gate_dst (N := 3) rfl ?_); refine bx 3 #[.bool false, .int .i64 0, .bool false, .bool false] 50 ?_; intro gb107 hg w4 BK107 hb; have GW107 := ge HB hg; have GE107 := ge HB hg; have NB105_107 := n1 BK105 hg; have NB107_105 := n2 BK105 hg; have NB106_107 := n1 BK106 hg; have NB107_106 := n2 BK106 hg; replace BK105 := bb BK105 hb; replace BK106 := bb BK106 hb; replace HB := bs HB hb; clear hb hg; have hnb5 := NB105_106.out; have hnc5 := NB106_105.out; have hnb6 := NB105_107.out; have hnc6 := NB107_105.out; obtain ⟨hcz7_0, hcz7_1, hcz7_2, hcz7_3, hfz7_0, hfz7_1, hfz7_2, hfz7_3⟩ := cl4 BK105; have hnb8 := NB107_106.out; have hnc8 := NB106_107.out; obtain ⟨hcz9_0, hcz9_1, hcz9_2, hcz9_3, hfz9_0, hfz9_1, hfz9_2, hfz9_3⟩ := cl4 BK107; obtain ⟨hcz10_0, hcz10_1, hcz10_2, hcz10_3, hfz10_0, hfz10_1, hfz10_2, hfz10_3⟩ := cl4 BK106))
 refine bodyPost_ret (results_cell_row rfl _ _ gb106 50 #[.bool a0_0, .int .i64 a0_1, .bool a0_2, .bool a0_3] (0, 0) _ rfl (by (with_reducible repeat (first | refine blk_drewN ?_ _ | refine blk_drew ?_ | refine blk_alloc ?_ _)); refine blk_put (cs := #[.bool a0_0, .int .i64 a0_1, .bool a0_2, .bool false]) ?_ 3 _ rfl; (with_reducible repeat (first | refine blk_drewN ?_ _ | refine blk_drew ?_ | refine blk_alloc ?_ _)); refine blk_put (cs := #[.bool a0_0, .int .i64 a0_1, .bool false, .bool false]) ?_ 2 _ rfl; (with_reducible repeat (first | refine blk_drewN ?_ _ | refine blk_drew ?_ | refine blk_alloc ?_ _)); refine blk_put (cs := #[.bool a0_0, .int .i64 0, .bool false, .bool false]) ?_ 1 _ rfl; (with_reducible repeat (first | refine blk_drewN ?_ _ | refine blk_drew ?_ | refine blk_alloc ?_ _)); refine blk_put (cs := #[.bool false, .int .i64 0, .bool false, .bool false]) ?_ 0 _ rfl; (with_reducible repeat (first | refine blk_drewN ?_ _ | refine blk_drew ?_ | refine blk_alloc ?_ _)); refine blk_far ?_ NB106_107.out _; (with_reducible repeat (first | refine blk_drewN ?_ _ | refine blk_drew ?_ | refine blk_alloc ?_ _)); refine blk_far ?_ NB106_107.out _; (with_reducible repeat (first | refine blk_drewN ?_ _ | refine blk_drew ?_ | refine blk_alloc ?_ _)); refine blk_far ?_ NB106_107.out _; (with_reducible repeat (first | refine blk_drewN ?_ _ | refine blk_drew ?_ | refine blk_alloc ?_ _)); refine blk_far ?_ NB106_107.out _; (with_reducible repeat (first | refine blk_drewN ?_ _ | refine blk_drew ?_ | refine blk_alloc ?_ _)); exact BK106.out) Try.underlying50 rfl (by kernel_rfl)) rfl ?_
 exact ⟨re, bo HB⟩

def laws_szIntS.f (l0 : List Int) (a1 : Int) : Option (Int) := if (wrap64 (a1 - (l0.length : Int))) < 0 then (some (-1)) else (some (wrap64 (a1 - (l0.length : Int))))
theorem laws_szIntS.calls (A0 : Option Addr) (c0 : Nat) (l0 : List Int) (a1 : Int) (r : Int) (w : World) (hr0 : Kd.C (Kd.int .i64) w A0 l0.length l0) (hc0 : l0.length ≤ c0) (h : laws_szIntS.f l0 a1 = some r) :
  Calls Try.prog 64 #[.slice A0 l0.length c0, .int .i64 a1] w fun e w' => e = .returned (.int .i64 r) ∧ Drawn0 w w' := by
 have HR0 := Aside0.mk hr0
 have HC0 := Aside0.mk hc0
 clear hr0 hc0
 have H := h
 clear h
 unfold laws_szIntS.f at H
 by_cases c3 : (wrap64 (a1 - (l0.length : Int))) < 0
 ·rw [if_pos c3] at H
  have c3b0 := decide_eq_true c3
  clear c3
  obtain rfl := Option.some.inj H
  go_enter Try.func64, Try.ntmps64
  go_wp2
  go_ret
  exact ⟨rv, dr⟩
 ·rw [if_neg c3] at H
  have c3b0 := decide_eq_false c3
  clear c3
  obtain rfl := Option.some.inj H
  go_enter Try.func64, Try.ntmps64
  go_wp2
  go_ret
  exact ⟨rv, dr⟩

def laws_szSquare.f (a0_0 : Int) (a0_1 : Int) (a0_2 : Int) (a0_3 : Int) (l0_4 : List Int) (a1 : Int) : Option (Int) := (laws_szIntS.f l0_4 a1).bind fun t109 => (if t109 < 0 then (some (-1)) else (some t109))
theorem laws_szSquare.calls (a0_0 : Int) (a0_1 : Int) (a0_2 : Int) (a0_3 : Int) (A0_4 : Option Addr) (c0_4 : Nat) (l0_4 : List Int) (a1 : Int) (r : Int) (w : World) (hr0_4 : Kd.C (Kd.int .i64) w A0_4 l0_4.length l0_4) (hc0_4 : l0_4.length ≤ c0_4) (h : laws_szSquare.f a0_0 a0_1 a0_2 a0_3 l0_4 a1 = some r) :
  Calls Try.prog 30 #[.agg #[.int .i64 a0_0, .int .i64 a0_1, .int .i64 a0_2, .int .i64 a0_3, .slice A0_4 l0_4.length c0_4], .int .i64 a1] w fun e w' => e = .returned (.int .i64 r) ∧ Below w.heap.size w w' := by
 have hu59 := Try.underlying59
 have HR0_4 := Aside0.mk hr0_4
 have HC0_4 := Aside0.mk hc0_4
 clear hr0_4 hc0_4
 have HB := Aside0.mk (Below.refl w.heap.size w)
 have H := h
 clear h
 unfold laws_szSquare.f at H
 replace H := bnd H
 obtain ⟨t109, A3, H⟩ := H
 by_cases c4 : t109 < 0
 ·rw [if_pos c4] at H
  have c4b0 := decide_eq_true c4
  clear c4
  obtain rfl := Option.some.inj H
  go_enter Try.func30, Try.ntmps30
  go_wp2_with (first | ((with_reducible refine gate_dst (N := 2) rfl ?_); refine bx 2 #[.int .i64 a0_0, .int .i64 a0_1, .int .i64 a0_2, .int .i64 a0_3, .slice A0_4 l0_4.length c0_4] 59 ?_; intro gb108 hg w5 BK108 hb; have GW108 := ge HB hg; have GE108 := ge HB hg; replace HB := bs HB hb; clear hb hg; obtain ⟨hcz6_0, hcz6_1, hcz6_2, hcz6_3, hcz6_4, hfz6_0, hfz6_1, hfz6_2, hfz6_3, hfz6_4⟩ := cl5 BK108) | ((with_reducible refine gate_callee (f := 64) rfl ?_); refine gD (some 8) Try.func64 #[.slice A0_4 l0_4.length c0_4, .int .i64 a1] (laws_szIntS.calls _ _ l0_4 a1 t109 _ ?side1 ?side2 A3.out) ?_; (case side1 => exact ca (Kd.C_below HR0_4.out HB.out)); (case side2 => exact HC0_4.out); intro nd))
  go_ret
  exact ⟨re, bo HB⟩
 ·rw [if_neg c4] at H
  have c4b0 := decide_eq_false c4
  clear c4
  obtain rfl := Option.some.inj H
  go_enter Try.func30, Try.ntmps30
  go_wp2_with (first | ((with_reducible refine gate_dst (N := 2) rfl ?_); refine bx 2 #[.int .i64 a0_0, .int .i64 a0_1, .int .i64 a0_2, .int .i64 a0_3, .slice A0_4 l0_4.length c0_4] 59 ?_; intro gb108 hg w7 BK108 hb; have GW108 := ge HB hg; have GE108 := ge HB hg; replace HB := bs HB hb; clear hb hg; obtain ⟨hcz8_0, hcz8_1, hcz8_2, hcz8_3, hcz8_4, hfz8_0, hfz8_1, hfz8_2, hfz8_3, hfz8_4⟩ := cl5 BK108) | ((with_reducible refine gate_callee (f := 64) rfl ?_); refine gD (some 8) Try.func64 #[.slice A0_4 l0_4.length c0_4, .int .i64 a1] (laws_szIntS.calls _ _ l0_4 a1 t109 _ ?side1 ?side2 A3.out) ?_; (case side1 => exact ca (Kd.C_below HR0_4.out HB.out)); (case side2 => exact HC0_4.out); intro nd))
  go_ret
  exact ⟨re, bo HB⟩

def spec_l01In.f (a0 : Int) (a1 : Int) (a2 : Int) : Option (Bool) := if a0 ≥ a1 then (some (decide (a0 ≤ a2))) else (some false)
theorem spec_l01In.calls (a0 : Int) (a1 : Int) (a2 : Int) (r : Bool) (w : World) (h : spec_l01In.f a0 a1 a2 = some r) :
  Calls Try.prog 58 #[.int .i64 a0, .int .i64 a1, .int .i64 a2] w fun e w' => e = .returned (.bool r) ∧ Drawn0 w w' := by
 have H := h
 clear h
 unfold spec_l01In.f at H
 by_cases c4 : a0 ≥ a1
 ·rw [if_pos c4] at H
  have c4b0 : decide (a1 ≤ a0) = true := decide_eq_true c4
  clear c4
  obtain rfl := Option.some.inj H
  go_enter Try.func58, Try.ntmps58
  go_wp2
  go_ret
  exact ⟨rv, dr⟩
 ·rw [if_neg c4] at H
  have c4b0 : decide (a1 ≤ a0) = false := decide_eq_false c4
  clear c4
  obtain rfl := Option.some.inj H
  go_enter Try.func58, Try.ntmps58
  go_wp2
  go_ret
  exact ⟨rv, dr⟩

def spec_PicOk.f (a0_0 : Int) (a0_1 : Int) (a0_2 : ByteArray) : Option (Bool) := (spec_l01In.f a0_0 1 256).bind fun t111 => (if t111 = true then ((spec_l01In.f a0_1 1 256).bind fun t112 => (if t112 = true then (some ((a0_2.size : Int) == (wrap64 (a0_0 * a0_1)))) else (some false))) else (some false))
theorem spec_PicOk.calls (a0_0 : Int) (a0_1 : Int) (a0_2 : ByteArray) (r : Bool) (w : World) (h : spec_PicOk.f a0_0 a0_1 a0_2 = some r) :
  Calls Try.prog 41 #[.agg #[.int .i64 a0_0, .int .i64 a0_1, .string a0_2]] w fun e w' => e = .returned (.bool r) ∧ Below w.heap.size w w' := by
 have hu25 := Try.underlying25
 have HB := Aside0.mk (Below.refl w.heap.size w)
 have H := h
 clear h
 unfold spec_PicOk.f at H
 replace H := bnd H
 obtain ⟨t111, A2, H⟩ := H
 by_cases c3 : t111 = true
 ·subst c3
  rw [if_pos rfl] at H
  replace H := bnd H
  obtain ⟨t112, A4, H⟩ := H
  by_cases c5 : t112 = true
  ·subst c5
   rw [if_pos rfl] at H
   obtain rfl := Option.some.inj H
   go_enter Try.func41, Try.ntmps41
   go_wp2_with (first | ((with_reducible refine gate_dst (N := 1) rfl ?_); (try (refine gate_guard (by rfl) ?_; dsimp only)); refine bx 1 #[.int .i64 a0_0, .int .i64 a0_1, .string a0_2] 25 ?_; intro gb110 hg w6 BK110 hb; have GW110 := ge HB hg; have GE110 := ge HB hg; replace HB := bs HB hb; clear hb hg; obtain ⟨hcz7_0, hcz7_1, hcz7_2, hfz7_0, hfz7_1, hfz7_2⟩ := cl3 BK110) | ((with_reducible refine gate_callee (f := 58) rfl ?_); refine gD (some 5) Try.func58 #[.int .i64 a0_0, .int .i64 1, .int .i64 256] (spec_l01In.calls a0_0 1 256 true _ A2.out) ?_; intro nd) | (go_at_call 58; (with_reducible refine (spec_l01In.calls a0_1 1 256 true _ A4.out).mono ?_); rintro e w' ⟨rfl, ⟨nd, rfl⟩⟩))
   go_ret
   exact ⟨re, bo HB⟩
  ·replace c5 := Bool.eq_false_iff.mpr c5
   subst c5
   rw [if_neg nft] at H
   obtain rfl := Option.some.inj H
   go_enter Try.func41, Try.ntmps41
   go_wp2_with (first | ((with_reducible refine gate_dst (N := 1) rfl ?_); (try (refine gate_guard (by rfl) ?_; dsimp only)); refine bx 1 #[.int .i64 a0_0, .int .i64 a0_1, .string a0_2] 25 ?_; intro gb110 hg w8 BK110 hb; have GW110 := ge HB hg; have GE110 := ge HB hg; replace HB := bs HB hb; clear hb hg; obtain ⟨hcz9_0, hcz9_1, hcz9_2, hfz9_0, hfz9_1, hfz9_2⟩ := cl3 BK110) | ((with_reducible refine gate_callee (f := 58) rfl ?_); refine gD (some 5) Try.func58 #[.int .i64 a0_0, .int .i64 1, .int .i64 256] (spec_l01In.calls a0_0 1 256 true _ A2.out) ?_; intro nd) | (go_at_call 58; (with_reducible refine (spec_l01In.calls a0_1 1 256 false _ A4.out).mono ?_); rintro e w' ⟨rfl, ⟨nd, rfl⟩⟩))
   go_ret
   exact ⟨re, bo HB⟩
 ·replace c3 := Bool.eq_false_iff.mpr c3
  subst c3
  rw [if_neg nft] at H
  obtain rfl := Option.some.inj H
  go_enter Try.func41, Try.ntmps41
  go_wp2_with (first | ((with_reducible refine gate_dst (N := 1) rfl ?_); (try (refine gate_guard (by rfl) ?_; dsimp only)); refine bx 1 #[.int .i64 a0_0, .int .i64 a0_1, .string a0_2] 25 ?_; intro gb110 hg w10 BK110 hb; have GW110 := ge HB hg; have GE110 := ge HB hg; replace HB := bs HB hb; clear hb hg; obtain ⟨hcz11_0, hcz11_1, hcz11_2, hfz11_0, hfz11_1, hfz11_2⟩ := cl3 BK110) | ((with_reducible refine gate_callee (f := 58) rfl ?_); refine gD (some 5) Try.func58 #[.int .i64 a0_0, .int .i64 1, .int .i64 256] (spec_l01In.calls a0_0 1 256 false _ A2.out) ?_; intro nd))
  go_ret
  exact ⟨re, bo HB⟩

def spec_CondOk.f (a0_0 : Bool) (a0_1 : Int) (a0_2 : Bool) (a0_3 : Bool) : Option (Bool) := (spec_l01In.f a0_1 0 40).bind fun t114 => (if t114 = true then (if a0_2 = true then (some (!a0_3)) else (some (!false))) else (some false))
theorem spec_CondOk.calls (a0_0 : Bool) (a0_1 : Int) (a0_2 : Bool) (a0_3 : Bool) (r : Bool) (w : World) (h : spec_CondOk.f a0_0 a0_1 a0_2 a0_3 = some r) :
  Calls Try.prog 59 #[.agg #[.bool a0_0, .int .i64 a0_1, .bool a0_2, .bool a0_3]] w fun e w' => e = .returned (.bool r) ∧ Below w.heap.size w w' := by
 have hu50 := Try.underlying50
 have HB := Aside0.mk (Below.refl w.heap.size w)
 have H := h
 clear h
 unfold spec_CondOk.f at H
 replace H := bnd H
 obtain ⟨t114, A2, H⟩ := H
 by_cases c3 : t114 = true
 ·subst c3
  rw [if_pos rfl] at H
  by_cases c4 : a0_2 = true
  ·subst c4
   rw [if_pos rfl] at H
   obtain rfl := Option.some.inj H
   go_enter Try.func59, Try.ntmps59
   go_wp2_with (first | ((with_reducible refine gate_dst (N := 1) rfl ?_); refine bx 1 #[.bool a0_0, .int .i64 a0_1, .bool true, .bool a0_3] 50 ?_; intro gb113 hg w5 BK113 hb; have GW113 := ge HB hg; have GE113 := ge HB hg; replace HB := bs HB hb; clear hb hg; obtain ⟨hcz6_0, hcz6_1, hcz6_2, hcz6_3, hfz6_0, hfz6_1, hfz6_2, hfz6_3⟩ := cl4 BK113) | ((with_reducible refine gate_callee (f := 58) rfl ?_); refine gD (some 5) Try.func58 #[.int .i64 a0_1, .int .i64 0, .int .i64 40] (spec_l01In.calls a0_1 0 40 true _ A2.out) ?_; intro nd))
   go_ret
   exact ⟨re, bo HB⟩
  ·replace c4 := Bool.eq_false_iff.mpr c4
   subst c4
   rw [if_neg nft] at H
   obtain rfl := Option.some.inj H
   go_enter Try.func59, Try.ntmps59
   go_wp2_with (first | ((with_reducible refine gate_dst (N := 1) rfl ?_); refine bx 1 #[.bool a0_0, .int .i64 a0_1, .bool false, .bool a0_3] 50 ?_; intro gb113 hg w7 BK113 hb; have GW113 := ge HB hg; have GE113 := ge HB hg; replace HB := bs HB hb; clear hb hg; obtain ⟨hcz8_0, hcz8_1, hcz8_2, hcz8_3, hfz8_0, hfz8_1, hfz8_2, hfz8_3⟩ := cl4 BK113) | ((with_reducible refine gate_callee (f := 58) rfl ?_); refine gD (some 5) Try.func58 #[.int .i64 a0_1, .int .i64 0, .int .i64 40] (spec_l01In.calls a0_1 0 40 true _ A2.out) ?_; intro nd))
   go_ret
   exact ⟨re, bo HB⟩
 ·replace c3 := Bool.eq_false_iff.mpr c3
  subst c3
  rw [if_neg nft] at H
  obtain rfl := Option.some.inj H
  go_enter Try.func59, Try.ntmps59
  go_wp2_with (first | ((with_reducible refine gate_dst (N := 1) rfl ?_); refine bx 1 #[.bool a0_0, .int .i64 a0_1, .bool a0_2, .bool a0_3] 50 ?_; intro gb113 hg w9 BK113 hb; have GW113 := ge HB hg; have GE113 := ge HB hg; replace HB := bs HB hb; clear hb hg; obtain ⟨hcz10_0, hcz10_1, hcz10_2, hcz10_3, hfz10_0, hfz10_1, hfz10_2, hfz10_3⟩ := cl4 BK113) | ((with_reducible refine gate_callee (f := 58) rfl ?_); refine gD (some 5) Try.func58 #[.int .i64 a0_1, .int .i64 0, .int .i64 40] (spec_l01In.calls a0_1 0 40 false _ A2.out) ?_; intro nd))
  go_ret
  exact ⟨re, bo HB⟩

def spec_l12Within.f (a0_0 : Int) (a0_1 : Int) (a0_2 : ByteArray) (a1 : Int) (a2 : Int) (a3 : Int) (a4 : Int) : Option (Bool) := (spec_PicOk.f a0_0 a0_1 a0_2).bind fun t116 => (if t116 = true then ((spec_l01In.f a3 1 a0_0).bind fun t117 => (if t117 = true then ((spec_l01In.f a4 1 a0_1).bind fun t118 => (if t118 = true then ((spec_l01In.f a1 0 (wrap64 (a0_0 - a3))).bind fun t119 => (if t119 = true then ((spec_l01In.f a2 0 (wrap64 (a0_1 - a4))).bind fun t120 => (some t120)) else (some false))) else (some false))) else (some false))) else (some false))
theorem spec_l12Within.calls (a0_0 : Int) (a0_1 : Int) (a0_2 : ByteArray) (a1 : Int) (a2 : Int) (a3 : Int) (a4 : Int) (r : Bool) (w : World) (h : spec_l12Within.f a0_0 a0_1 a0_2 a1 a2 a3 a4 = some r) :
  Calls Try.prog 42 #[.agg #[.int .i64 a0_0, .int .i64 a0_1, .string a0_2], .int .i64 a1, .int .i64 a2, .int .i64 a3, .int .i64 a4] w fun e w' => e = .returned (.bool r) ∧ Below w.heap.size w w' := by
 have hu25 := Try.underlying25
 have HB := Aside0.mk (Below.refl w.heap.size w)
 have H := h
 clear h
 unfold spec_l12Within.f at H
 replace H := bnd H
 obtain ⟨t116, A6, H⟩ := H
 by_cases c7 : t116 = true
 ·subst c7
  rw [if_pos rfl] at H
  replace H := bnd H
  obtain ⟨t117, A8, H⟩ := H
  by_cases c9 : t117 = true
  ·subst c9
   rw [if_pos rfl] at H
   replace H := bnd H
   obtain ⟨t118, A10, H⟩ := H
   by_cases c11 : t118 = true
   ·subst c11
    rw [if_pos rfl] at H
    replace H := bnd H
    obtain ⟨t119, A12, H⟩ := H
    by_cases c13 : t119 = true
    ·subst c13
     rw [if_pos rfl] at H
     replace H := bnd H
     obtain ⟨t120, A14, H⟩ := H
     obtain rfl := Option.some.inj H
     go_enter Try.func42, Try.ntmps42
     go_wp2_with (first | ((with_reducible refine gate_dst (N := 5) rfl ?_); refine bx 5 #[.int .i64 a0_0, .int .i64 a0_1, .string a0_2] 25 ?_; intro gb115 hg w15 BK115 hb; have GW115 := ge HB hg; have GE115 := ge HB hg; replace HB := bs HB hb; clear hb hg; obtain ⟨hcz16_0, hcz16_1, hcz16_2, hfz16_0, hfz16_1, hfz16_2⟩ := cl3 BK115) | ((with_reducible refine gate_callee (f := 41) rfl ?_); refine gL (some 12) Try.func41 #[.agg #[.int .i64 a0_0, .int .i64 a0_1, .string a0_2]] ?_; (with_reducible refine (spec_PicOk.calls a0_0 a0_1 a0_2 true _ A6.out).mono ?_); rintro e w17 ⟨rfl, hb⟩; refine ⟨_, rfl, ?_⟩; replace BK115 := bb BK115 hb; replace HB := bs HB hb; (try clear hb); obtain ⟨hcz18_0, hcz18_1, hcz18_2, hfz18_0, hfz18_1, hfz18_2⟩ := cl3 BK115) | (go_at_call 58; (with_reducible refine (spec_l01In.calls a3 1 a0_0 true _ A8.out).mono ?_); rintro e w' ⟨rfl, ⟨nd, rfl⟩⟩) | (go_at_call 58; (with_reducible refine (spec_l01In.calls a4 1 a0_1 true _ A10.out).mono ?_); rintro e w' ⟨rfl, ⟨nd, rfl⟩⟩) | (go_at_call 58; (with_reducible refine (spec_l01In.calls a1 0 (wrap64 (a0_0 - a3)) true _ A12.out).mono ?_); rintro e w' ⟨rfl, ⟨nd, rfl⟩⟩) | (go_at_call 58; (with_reducible refine (spec_l01In.calls a2 0 (wrap64 (a0_1 - a4)) t120 _ A14.out).mono ?_); rintro e w' ⟨rfl, ⟨nd, rfl⟩⟩))
     go_ret
     exact ⟨re, bo HB⟩
    ·replace c13 := Bool.eq_false_iff.mpr c13
     subst c13
     rw [if_neg nft] at H
     obtain rfl := Option.some.inj H
     go_enter Try.func42, Try.ntmps42
     go_wp2_with (first | ((with_reducible refine gate_dst (N := 5) rfl ?_); refine bx 5 #[.int .i64 a0_0, .int .i64 a0_1, .string a0_2] 25 ?_; intro gb115 hg w19 BK115 hb; have GW115 := ge HB hg; have GE115 := ge HB hg; replace HB := bs HB hb; clear hb hg; obtain ⟨hcz20_0, hcz20_1, hcz20_2, hfz20_0, hfz20_1, hfz20_2⟩ := cl3 BK115) | ((with_reducible refine gate_callee (f := 41) rfl ?_); refine gL (some 12) Try.func41 #[.agg #[.int .i64 a0_0, .int .i64 a0_1, .string a0_2]] ?_; (with_reducible refine (spec_PicOk.calls a0_0 a0_1 a0_2 true _ A6.out).mono ?_); rintro e w21 ⟨rfl, hb⟩; refine ⟨_, rfl, ?_⟩; replace BK115 := bb BK115 hb; replace HB := bs HB hb; (try clear hb); obtain ⟨hcz22_0, hcz22_1, hcz22_2, hfz22_0, hfz22_1, hfz22_2⟩ := cl3 BK115) | (go_at_call 58; (with_reducible refine (spec_l01In.calls a3 1 a0_0 true _ A8.out).mono ?_); rintro e w' ⟨rfl, ⟨nd, rfl⟩⟩) | (go_at_call 58; (with_reducible refine (spec_l01In.calls a4 1 a0_1 true _ A10.out).mono ?_); rintro e w' ⟨rfl, ⟨nd, rfl⟩⟩) | (go_at_call 58; (with_reducible refine (spec_l01In.calls a1 0 (wrap64 (a0_0 - a3)) false _ A12.out).mono ?_); rintro e w' ⟨rfl, ⟨nd, rfl⟩⟩))
     go_ret
     exact ⟨re, bo HB⟩
   ·replace c11 := Bool.eq_false_iff.mpr c11
    subst c11
    rw [if_neg nft] at H
    obtain rfl := Option.some.inj H
    go_enter Try.func42, Try.ntmps42
    go_wp2_with (first | ((with_reducible refine gate_dst (N := 5) rfl ?_); refine bx 5 #[.int .i64 a0_0, .int .i64 a0_1, .string a0_2] 25 ?_; intro gb115 hg w23 BK115 hb; have GW115 := ge HB hg; have GE115 := ge HB hg; replace HB := bs HB hb; clear hb hg; obtain ⟨hcz24_0, hcz24_1, hcz24_2, hfz24_0, hfz24_1, hfz24_2⟩ := cl3 BK115) | ((with_reducible refine gate_callee (f := 41) rfl ?_); refine gL (some 12) Try.func41 #[.agg #[.int .i64 a0_0, .int .i64 a0_1, .string a0_2]] ?_; (with_reducible refine (spec_PicOk.calls a0_0 a0_1 a0_2 true _ A6.out).mono ?_); rintro e w25 ⟨rfl, hb⟩; refine ⟨_, rfl, ?_⟩; replace BK115 := bb BK115 hb; replace HB := bs HB hb; (try clear hb); obtain ⟨hcz26_0, hcz26_1, hcz26_2, hfz26_0, hfz26_1, hfz26_2⟩ := cl3 BK115) | (go_at_call 58; (with_reducible refine (spec_l01In.calls a3 1 a0_0 true _ A8.out).mono ?_); rintro e w' ⟨rfl, ⟨nd, rfl⟩⟩) | (go_at_call 58; (with_reducible refine (spec_l01In.calls a4 1 a0_1 false _ A10.out).mono ?_); rintro e w' ⟨rfl, ⟨nd, rfl⟩⟩))
    go_ret
    exact ⟨re, bo HB⟩
  ·replace c9 := Bool.eq_false_iff.mpr c9
   subst c9
   rw [if_neg nft] at H
   obtain rfl := Option.some.inj H
   go_enter Try.func42, Try.ntmps42
   go_wp2_with (first | ((with_reducible refine gate_dst (N := 5) rfl ?_); refine bx 5 #[.int .i64 a0_0, .int .i64 a0_1, .string a0_2] 25 ?_; intro gb115 hg w27 BK115 hb; have GW115 := ge HB hg; have GE115 := ge HB hg; replace HB := bs HB hb; clear hb hg; obtain ⟨hcz28_0, hcz28_1, hcz28_2, hfz28_0, hfz28_1, hfz28_2⟩ := cl3 BK115) | ((with_reducible refine gate_callee (f := 41) rfl ?_); refine gL (some 12) Try.func41 #[.agg #[.int .i64 a0_0, .int .i64 a0_1, .string a0_2]] ?_; (with_reducible refine (spec_PicOk.calls a0_0 a0_1 a0_2 true _ A6.out).mono ?_); rintro e w29 ⟨rfl, hb⟩; refine ⟨_, rfl, ?_⟩; replace BK115 := bb BK115 hb; replace HB := bs HB hb; (try clear hb); obtain ⟨hcz30_0, hcz30_1, hcz30_2, hfz30_0, hfz30_1, hfz30_2⟩ := cl3 BK115) | (go_at_call 58; (with_reducible refine (spec_l01In.calls a3 1 a0_0 false _ A8.out).mono ?_); rintro e w' ⟨rfl, ⟨nd, rfl⟩⟩))
   go_ret
   exact ⟨re, bo HB⟩
 ·replace c7 := Bool.eq_false_iff.mpr c7
  subst c7
  rw [if_neg nft] at H
  obtain rfl := Option.some.inj H
  go_enter Try.func42, Try.ntmps42
  go_wp2_with (first | ((with_reducible refine gate_dst (N := 5) rfl ?_); refine bx 5 #[.int .i64 a0_0, .int .i64 a0_1, .string a0_2] 25 ?_; intro gb115 hg w31 BK115 hb; have GW115 := ge HB hg; have GE115 := ge HB hg; replace HB := bs HB hb; clear hb hg; obtain ⟨hcz32_0, hcz32_1, hcz32_2, hfz32_0, hfz32_1, hfz32_2⟩ := cl3 BK115) | ((with_reducible refine gate_callee (f := 41) rfl ?_); refine gL (some 12) Try.func41 #[.agg #[.int .i64 a0_0, .int .i64 a0_1, .string a0_2]] ?_; (with_reducible refine (spec_PicOk.calls a0_0 a0_1 a0_2 false _ A6.out).mono ?_); rintro e w33 ⟨rfl, hb⟩; refine ⟨_, rfl, ?_⟩; replace BK115 := bb BK115 hb; replace HB := bs HB hb; (try clear hb)))
  go_ret
  exact ⟨re, bo HB⟩

def spec_l13Fits.f (a0_0 : Int) (a0_1 : Int) (a0_2 : ByteArray) (a1 : Int) (a2 : Int) : Option (Bool) := if (Int.tmod a1 8) = 0 then (if (Int.tmod a2 8) = 0 then ((spec_l12Within.f a0_0 a0_1 a0_2 a1 a2 8 8).bind fun t122 => (some t122)) else (some false)) else (some false)
theorem spec_l13Fits.calls (a0_0 : Int) (a0_1 : Int) (a0_2 : ByteArray) (a1 : Int) (a2 : Int) (r : Bool) (w : World) (h : spec_l13Fits.f a0_0 a0_1 a0_2 a1 a2 = some r) :
  Calls Try.prog 65 #[.agg #[.int .i64 a0_0, .int .i64 a0_1, .string a0_2], .int .i64 a1, .int .i64 a2] w fun e w' => e = .returned (.bool r) ∧ Below w.heap.size w w' := by
 have hu25 := Try.underlying25
 have HB := Aside0.mk (Below.refl w.heap.size w)
 have H := h
 clear h
 unfold spec_l13Fits.f at H
 by_cases c4 : (Int.tmod a1 8) = 0
 ·rw [if_pos c4] at H
  obtain ⟨c4b0, c4b1⟩ := eqt c4
  clear c4
  by_cases c5 : (Int.tmod a2 8) = 0
  ·rw [if_pos c5] at H
   obtain ⟨c5b0, c5b1⟩ := eqt c5
   clear c5
   replace H := bnd H
   obtain ⟨t122, A6, H⟩ := H
   obtain rfl := Option.some.inj H
   go_enter Try.func65, Try.ntmps65
   go_wp2_with (first | ((with_reducible refine gate_dst (N := 3) rfl ?_); refine bx 3 #[.int .i64 a0_0, .int .i64 a0_1, .string a0_2] 25 ?_; intro gb121 hg w7 BK121 hb; have GW121 := ge HB hg; have GE121 := ge HB hg; replace HB := bs HB hb; clear hb hg; obtain ⟨hcz8_0, hcz8_1, hcz8_2, hfz8_0, hfz8_1, hfz8_2⟩ := cl3 BK121) | (go_at_call 42; (with_reducible refine (spec_l12Within.calls a0_0 a0_1 a0_2 a1 a2 8 8 t122 _ A6.out).mono ?_); rintro e w9 ⟨rfl, hb⟩; replace BK121 := bb BK121 hb; replace HB := bs HB hb; (try clear hb)))
   go_ret
   exact ⟨re, bo HB⟩
  ·rw [if_neg c5] at H
   obtain ⟨c5b0, c5b1⟩ := eqf c5
   obtain rfl := Option.some.inj H
   go_enter Try.func65, Try.ntmps65
   go_wp2_with (first | ((with_reducible refine gate_dst (N := 3) rfl ?_); refine bx 3 #[.int .i64 a0_0, .int .i64 a0_1, .string a0_2] 25 ?_; intro gb121 hg w10 BK121 hb; have GW121 := ge HB hg; have GE121 := ge HB hg; replace HB := bs HB hb; clear hb hg))
   go_ret
   exact ⟨re, bo HB⟩
 ·rw [if_neg c4] at H
  obtain ⟨c4b0, c4b1⟩ := eqf c4
  obtain rfl := Option.some.inj H
  go_enter Try.func65, Try.ntmps65
  go_wp2_with (first | ((with_reducible refine gate_dst (N := 3) rfl ?_); refine bx 3 #[.int .i64 a0_0, .int .i64 a0_1, .string a0_2] 25 ?_; intro gb121 hg w11 BK121 hb; have GW121 := ge HB hg; have GE121 := ge HB hg; replace HB := bs HB hb; clear hb hg))
  go_ret
  exact ⟨re, bo HB⟩

def spec_l09All.l0 : Nat → List Int → Int → Int → Int → Option (Bool)
 | 0, _, _, _, _ => none
 | k + 1, x0, x1, x2, x7 => if x7 < x1 then (if 0 ≤ x7 then (if x7 < (x0.length : Int) then ((spec_l01In.f (rd x0 x7) (wrap64 (-x2)) x2).bind fun t124 => (if t124 = true then (spec_l09All.l0 k x0 x1 x2 (wrap64 (x7 + 1))) else (some false))) else (none)) else (none)) else (some true)
def spec_l09All.f (k : Nat) (l0 : List Int) (a1 : Int) (a2 : Int) : Option (Bool) := if (l0.length : Int) = a1 then (spec_l09All.l0 k l0 a1 a2 0) else (some false)
theorem spec_l09All.calls (k : Nat) (A0 : Option Addr) (c0 : Nat) (l0 : List Int) (a1 : Int) (a2 : Int) (r : Bool) (w : World) (hr0 : Kd.C (Kd.int .i64) w A0 l0.length l0) (hc0 : l0.length ≤ c0) (h : spec_l09All.f k l0 a1 a2 = some r) :
  Calls Try.prog 101 #[.slice A0 l0.length c0, .int .i64 a1, .int .i64 a2] w fun e w' => e = .returned (.bool r) ∧ Drawn0 w w' := by
 have HR0 := Aside0.mk hr0
 have HC0 := Aside0.mk hc0
 clear hr0 hc0
 have H := h
 clear h
 unfold spec_l09All.f at H
 by_cases c4 : (l0.length : Int) = a1
 ·rw [if_pos c4] at H
  obtain ⟨c4b0, c4b1⟩ := eqt c4
  clear c4
  have H' := Aside0.mk H
  clear H
  go_enter Try.func101, Try.ntmps101
  go_wp2
  go_loopg [7] k (fun kq v7 w' => ∃ (x7_1 : Int), v7 = .int .i64 x7_1 ∧ Aside0 (spec_l09All.l0 kq l0 a1 a2 x7_1 = some r) ∧ Aside0 (kq ≤ k) ∧ Drawn0 w w')
  case atStart => exact ⟨(0), rv, H', ⟨Nat.le_refl _⟩, dr⟩
  case round =>
   clear H'
   obtain ⟨x7_1, rfl, HA, HK1, ⟨m1, rfl⟩⟩ := hrel
   cases gk with
   | zero => exact absurd HA.out (by simp [spec_l09All.l0])
   | succ k1 =>
    have H := HA.out
    clear HA
    simp only [spec_l09All.l0] at H
    by_cases c5 : x7_1 < a1
    ·rw [if_pos c5] at H
     have c5b0 := decide_eq_true c5
     clear c5
     by_cases c6 : 0 ≤ x7_1
     ·rw [if_pos c6] at H
      have c6b0 := decide_eq_true c6
      clear c6
      by_cases c7 : x7_1 < (l0.length : Int)
      ·rw [if_pos c7] at H
       have c7b0 := decide_eq_true c7
       clear c7
       replace H := bnd H
       obtain ⟨t124, A8, H⟩ := H
       by_cases c9 : t124 = true
       ·subst c9
        rw [if_pos rfl] at H
        have H' := Aside0.mk H
        clear H
        have p123 : 0 ≤ (x7_1 : Int) := od
        have q123 : x7_1 < (l0.length : Int) := od
        obtain ⟨ad123, e123, hx123_0⟩ := Kd.at_int HR0.out x7_1 p123 q123
        cases e123
        replace p123 := eq_true p123
        replace q123 := eq_true q123
        go_wp2_with (first | ((with_reducible refine gate_callee (f := 58) rfl ?_); refine gD (some 24) Try.func58 #[.int .i64 (rd l0 x7_1), .int .i64 (wrap64 (-a2)), .int .i64 a2] (spec_l01In.calls (rd l0 x7_1) (wrap64 (-a2)) a2 true _ A8.out) ?_ (hargs := (by (try simp only [List.map_toArray, List.map_cons, List.map_nil]); first | done | rfl | (rw [show (wrap64 (-a2)) = (-a2) from by unfold wrap64; omega]; rfl) | (simp only [List.length_drop, List.length_take]; rfl))); intro nd))
        go_roundg k1
        case measure => have := HK1.out; omega
        case rel => exact ⟨(wrap64 (x7_1 + 1)), rv, H', ⟨by have := HK1.out; omega⟩, dr⟩
       ·replace c9 := Bool.eq_false_iff.mpr c9
        subst c9
        rw [if_neg nft] at H
        obtain rfl := Option.some.inj H
        have p123 : 0 ≤ (x7_1 : Int) := od
        have q123 : x7_1 < (l0.length : Int) := od
        obtain ⟨ad123, e123, hx123_0⟩ := Kd.at_int HR0.out x7_1 p123 q123
        cases e123
        replace p123 := eq_true p123
        replace q123 := eq_true q123
        go_wp2_with (first | ((with_reducible refine gate_callee (f := 58) rfl ?_); refine gD (some 24) Try.func58 #[.int .i64 (rd l0 x7_1), .int .i64 (wrap64 (-a2)), .int .i64 a2] (spec_l01In.calls (rd l0 x7_1) (wrap64 (-a2)) a2 false _ A8.out) ?_ (hargs := (by (try simp only [List.map_toArray, List.map_cons, List.map_nil]); first | done | rfl | (rw [show (wrap64 (-a2)) = (-a2) from by unfold wrap64; omega]; rfl) | (simp only [List.length_drop, List.length_take]; rfl))); intro nd))
        go_ret
        exact ⟨rv, dr⟩
      ·rw [if_neg c7] at H
       exact absurd H (by simp)
     ·rw [if_neg c6] at H
      exact absurd H (by simp)
    ·rw [if_neg c5] at H
     have c5b0 := decide_eq_false c5
     clear c5
     obtain rfl := Option.some.inj H
     go_wp2
     go_ret
     exact ⟨rv, dr⟩
 ·rw [if_neg c4] at H
  obtain ⟨c4b0, c4b1⟩ := eqf c4
  obtain rfl := Option.some.inj H
  go_enter Try.func101, Try.ntmps101
  go_wp2
  go_ret
  exact ⟨rv, dr⟩

def spec_SquareOk.f (k : Nat) (a0_0 : Int) (a0_1 : Int) (a0_2 : Int) (a0_3 : Int) (l0_4 : List Int) : Option (Bool) := if a0_0 = 0 then (if a0_1 = 0 then (if a0_2 = 0 then (if a0_3 = 0 then (some ((l0_4.length : Int) == 0)) else (some false)) else (some false)) else (some false)) else (if a0_0 = 1 then (if a0_1 = 0 then ((spec_l01In.f a0_2 (-16) 16).bind fun t126 => (if t126 = true then ((spec_l01In.f a0_3 (-16) 16).bind fun t127 => (if t127 = true then ((spec_l09All.f k l0_4 64 5000).bind fun t128 => (some t128)) else (some false))) else (some false))) else (some false)) else (if a0_0 = 2 then ((spec_l01In.f a0_1 0 3).bind fun t129 => (if t129 = true then (if a0_2 = 0 then (if a0_3 = 0 then ((spec_l09All.f k l0_4 64 5000).bind fun t130 => (some t130)) else (some false)) else (some false)) else (some false))) else (some false)))
theorem spec_SquareOk.calls (k : Nat) (a0_0 : Int) (a0_1 : Int) (a0_2 : Int) (a0_3 : Int) (A0_4 : Option Addr) (c0_4 : Nat) (l0_4 : List Int) (r : Bool) (w : World) (hr0_4 : Kd.C (Kd.int .i64) w A0_4 l0_4.length l0_4) (hc0_4 : l0_4.length ≤ c0_4) (h : spec_SquareOk.f k a0_0 a0_1 a0_2 a0_3 l0_4 = some r) :
  Calls Try.prog 66 #[.agg #[.int .i64 a0_0, .int .i64 a0_1, .int .i64 a0_2, .int .i64 a0_3, .slice A0_4 l0_4.length c0_4]] w fun e w' => e = .returned (.bool r) ∧ Below w.heap.size w w' := by
 have hu63 := Try.underlying63
 have HR0_4 := Aside0.mk hr0_4
 have HC0_4 := Aside0.mk hc0_4
 clear hr0_4 hc0_4
 have HB := Aside0.mk (Below.refl w.heap.size w)
 have H := h
 clear h
 unfold spec_SquareOk.f at H
 by_cases c2 : a0_0 = 0
 ·rw [if_pos c2] at H
  obtain ⟨c2b0, c2b1⟩ := eqt c2
  clear c2
  by_cases c3 : a0_1 = 0
  ·rw [if_pos c3] at H
   obtain ⟨c3b0, c3b1⟩ := eqt c3
   clear c3
   by_cases c4 : a0_2 = 0
   ·rw [if_pos c4] at H
    obtain ⟨c4b0, c4b1⟩ := eqt c4
    clear c4
    by_cases c5 : a0_3 = 0
    ·rw [if_pos c5] at H
     obtain ⟨c5b0, c5b1⟩ := eqt c5
     clear c5
     obtain rfl := Option.some.inj H
     go_enter Try.func66, Try.ntmps66
     go_wp2_with (first | ((with_reducible refine gate_dst (N := 1) rfl ?_); (try (refine gate_guard (by rfl) ?_; dsimp only)); refine bx 1 #[.int .i64 a0_0, .int .i64 a0_1, .int .i64 a0_2, .int .i64 a0_3, .slice A0_4 l0_4.length c0_4] 63 ?_; intro gb125 hg w6 BK125 hb; have GW125 := ge HB hg; have GE125 := ge HB hg; replace HB := bs HB hb; clear hb hg; obtain ⟨hcz7_0, hcz7_1, hcz7_2, hcz7_3, hcz7_4, hfz7_0, hfz7_1, hfz7_2, hfz7_3, hfz7_4⟩ := cl5 BK125))
     go_ret
     exact ⟨re, bo HB⟩
    ·rw [if_neg c5] at H
     obtain ⟨c5b0, c5b1⟩ := eqf c5
     obtain rfl := Option.some.inj H
     go_enter Try.func66, Try.ntmps66
     go_wp2_with (first | ((with_reducible refine gate_dst (N := 1) rfl ?_); (try (refine gate_guard (by rfl) ?_; dsimp only)); refine bx 1 #[.int .i64 a0_0, .int .i64 a0_1, .int .i64 a0_2, .int .i64 a0_3, .slice A0_4 l0_4.length c0_4] 63 ?_; intro gb125 hg w8 BK125 hb; have GW125 := ge HB hg; have GE125 := ge HB hg; replace HB := bs HB hb; clear hb hg; obtain ⟨hcz9_0, hcz9_1, hcz9_2, hcz9_3, hcz9_4, hfz9_0, hfz9_1, hfz9_2, hfz9_3, hfz9_4⟩ := cl5 BK125))
     go_ret
     exact ⟨re, bo HB⟩
   ·rw [if_neg c4] at H
    obtain ⟨c4b0, c4b1⟩ := eqf c4
    obtain rfl := Option.some.inj H
    go_enter Try.func66, Try.ntmps66
    go_wp2_with (first | ((with_reducible refine gate_dst (N := 1) rfl ?_); (try (refine gate_guard (by rfl) ?_; dsimp only)); refine bx 1 #[.int .i64 a0_0, .int .i64 a0_1, .int .i64 a0_2, .int .i64 a0_3, .slice A0_4 l0_4.length c0_4] 63 ?_; intro gb125 hg w10 BK125 hb; have GW125 := ge HB hg; have GE125 := ge HB hg; replace HB := bs HB hb; clear hb hg; obtain ⟨hcz11_0, hcz11_1, hcz11_2, hcz11_3, hcz11_4, hfz11_0, hfz11_1, hfz11_2, hfz11_3, hfz11_4⟩ := cl5 BK125))
    go_ret
    exact ⟨re, bo HB⟩
  ·rw [if_neg c3] at H
   obtain ⟨c3b0, c3b1⟩ := eqf c3
   obtain rfl := Option.some.inj H
   go_enter Try.func66, Try.ntmps66
   go_wp2_with (first | ((with_reducible refine gate_dst (N := 1) rfl ?_); (try (refine gate_guard (by rfl) ?_; dsimp only)); refine bx 1 #[.int .i64 a0_0, .int .i64 a0_1, .int .i64 a0_2, .int .i64 a0_3, .slice A0_4 l0_4.length c0_4] 63 ?_; intro gb125 hg w12 BK125 hb; have GW125 := ge HB hg; have GE125 := ge HB hg; replace HB := bs HB hb; clear hb hg; obtain ⟨hcz13_0, hcz13_1, hcz13_2, hcz13_3, hcz13_4, hfz13_0, hfz13_1, hfz13_2, hfz13_3, hfz13_4⟩ := cl5 BK125))
   go_ret
   exact ⟨re, bo HB⟩
 ·rw [if_neg c2] at H
  obtain ⟨c2b0, c2b1⟩ := eqf c2
  by_cases c14 : a0_0 = 1
  ·rw [if_pos c14] at H
   obtain ⟨c14b0, c14b1⟩ := eqt c14
   clear c14
   by_cases c15 : a0_1 = 0
   ·rw [if_pos c15] at H
    obtain ⟨c15b0, c15b1⟩ := eqt c15
    clear c15
    replace H := bnd H
    obtain ⟨t126, A16, H⟩ := H
    by_cases c17 : t126 = true
    ·subst c17
     rw [if_pos rfl] at H
     replace H := bnd H
     obtain ⟨t127, A18, H⟩ := H
     by_cases c19 : t127 = true
     ·subst c19
      rw [if_pos rfl] at H
      replace H := bnd H
      obtain ⟨t128, A20, H⟩ := H
      obtain rfl := Option.some.inj H
      go_enter Try.func66, Try.ntmps66
      go_wp2_with (first | ((with_reducible refine gate_dst (N := 1) rfl ?_); (try (refine gate_guard (by rfl) ?_; dsimp only)); refine bx 1 #[.int .i64 a0_0, .int .i64 a0_1, .int .i64 a0_2, .int .i64 a0_3, .slice A0_4 l0_4.length c0_4] 63 ?_; intro gb125 hg w21 BK125 hb; have GW125 := ge HB hg; have GE125 := ge HB hg; replace HB := bs HB hb; clear hb hg; obtain ⟨hcz22_0, hcz22_1, hcz22_2, hcz22_3, hcz22_4, hfz22_0, hfz22_1, hfz22_2, hfz22_3, hfz22_4⟩ := cl5 BK125) | (go_at_call 58; (with_reducible refine (spec_l01In.calls a0_2 (-16) 16 true _ A16.out).mono ?_); rintro e w' ⟨rfl, ⟨nd, rfl⟩⟩) | (go_at_call 58; (with_reducible refine (spec_l01In.calls a0_3 (-16) 16 true _ A18.out).mono ?_); rintro e w' ⟨rfl, ⟨nd, rfl⟩⟩) | (go_at_call 101; (with_reducible refine (spec_l09All.calls k _ _ l0_4 64 5000 t128 _ ?side1 ?side2 A20.out).mono ?_); (case side1 => exact ca (Kd.C_below HR0_4.out (bo HB))); (case side2 => exact HC0_4.out); rintro e w' ⟨rfl, ⟨nd, rfl⟩⟩))
      go_ret
      exact ⟨re, bo HB⟩
     ·replace c19 := Bool.eq_false_iff.mpr c19
      subst c19
      rw [if_neg nft] at H
      obtain rfl := Option.some.inj H
      go_enter Try.func66, Try.ntmps66
      go_wp2_with (first | ((with_reducible refine gate_dst (N := 1) rfl ?_); (try (refine gate_guard (by rfl) ?_; dsimp only)); refine bx 1 #[.int .i64 a0_0, .int .i64 a0_1, .int .i64 a0_2, .int .i64 a0_3, .slice A0_4 l0_4.length c0_4] 63 ?_; intro gb125 hg w23 BK125 hb; have GW125 := ge HB hg; have GE125 := ge HB hg; replace HB := bs HB hb; clear hb hg; obtain ⟨hcz24_0, hcz24_1, hcz24_2, hcz24_3, hcz24_4, hfz24_0, hfz24_1, hfz24_2, hfz24_3, hfz24_4⟩ := cl5 BK125) | (go_at_call 58; (with_reducible refine (spec_l01In.calls a0_2 (-16) 16 true _ A16.out).mono ?_); rintro e w' ⟨rfl, ⟨nd, rfl⟩⟩) | (go_at_call 58; (with_reducible refine (spec_l01In.calls a0_3 (-16) 16 false _ A18.out).mono ?_); rintro e w' ⟨rfl, ⟨nd, rfl⟩⟩))
      go_ret
      exact ⟨re, bo HB⟩
    ·replace c17 := Bool.eq_false_iff.mpr c17
     subst c17
     rw [if_neg nft] at H
     obtain rfl := Option.some.inj H
     go_enter Try.func66, Try.ntmps66
     go_wp2_with (first | ((with_reducible refine gate_dst (N := 1) rfl ?_); (try (refine gate_guard (by rfl) ?_; dsimp only)); refine bx 1 #[.int .i64 a0_0, .int .i64 a0_1, .int .i64 a0_2, .int .i64 a0_3, .slice A0_4 l0_4.length c0_4] 63 ?_; intro gb125 hg w25 BK125 hb; have GW125 := ge HB hg; have GE125 := ge HB hg; replace HB := bs HB hb; clear hb hg; obtain ⟨hcz26_0, hcz26_1, hcz26_2, hcz26_3, hcz26_4, hfz26_0, hfz26_1, hfz26_2, hfz26_3, hfz26_4⟩ := cl5 BK125) | (go_at_call 58; (with_reducible refine (spec_l01In.calls a0_2 (-16) 16 false _ A16.out).mono ?_); rintro e w' ⟨rfl, ⟨nd, rfl⟩⟩))
     go_ret
     exact ⟨re, bo HB⟩
   ·rw [if_neg c15] at H
    obtain ⟨c15b0, c15b1⟩ := eqf c15
    obtain rfl := Option.some.inj H
    go_enter Try.func66, Try.ntmps66
    go_wp2_with (first | ((with_reducible refine gate_dst (N := 1) rfl ?_); (try (refine gate_guard (by rfl) ?_; dsimp only)); refine bx 1 #[.int .i64 a0_0, .int .i64 a0_1, .int .i64 a0_2, .int .i64 a0_3, .slice A0_4 l0_4.length c0_4] 63 ?_; intro gb125 hg w27 BK125 hb; have GW125 := ge HB hg; have GE125 := ge HB hg; replace HB := bs HB hb; clear hb hg; obtain ⟨hcz28_0, hcz28_1, hcz28_2, hcz28_3, hcz28_4, hfz28_0, hfz28_1, hfz28_2, hfz28_3, hfz28_4⟩ := cl5 BK125))
    go_ret
    exact ⟨re, bo HB⟩
  ·rw [if_neg c14] at H
   obtain ⟨c14b0, c14b1⟩ := eqf c14
   by_cases c29 : a0_0 = 2
   ·rw [if_pos c29] at H
    obtain ⟨c29b0, c29b1⟩ := eqt c29
    clear c29
    replace H := bnd H
    obtain ⟨t129, A30, H⟩ := H
    by_cases c31 : t129 = true
    ·subst c31
     rw [if_pos rfl] at H
     by_cases c32 : a0_2 = 0
     ·rw [if_pos c32] at H
      obtain ⟨c32b0, c32b1⟩ := eqt c32
      clear c32
      by_cases c33 : a0_3 = 0
      ·rw [if_pos c33] at H
       obtain ⟨c33b0, c33b1⟩ := eqt c33
       clear c33
       replace H := bnd H
       obtain ⟨t130, A34, H⟩ := H
       obtain rfl := Option.some.inj H
       go_enter Try.func66, Try.ntmps66
       go_wp2_with (first | ((with_reducible refine gate_dst (N := 1) rfl ?_); (try (refine gate_guard (by rfl) ?_; dsimp only)); refine bx 1 #[.int .i64 a0_0, .int .i64 a0_1, .int .i64 a0_2, .int .i64 a0_3, .slice A0_4 l0_4.length c0_4] 63 ?_; intro gb125 hg w35 BK125 hb; have GW125 := ge HB hg; have GE125 := ge HB hg; replace HB := bs HB hb; clear hb hg; obtain ⟨hcz36_0, hcz36_1, hcz36_2, hcz36_3, hcz36_4, hfz36_0, hfz36_1, hfz36_2, hfz36_3, hfz36_4⟩ := cl5 BK125) | ((with_reducible refine gate_callee (f := 58) rfl ?_); refine gD (some 50) Try.func58 #[.int .i64 a0_1, .int .i64 0, .int .i64 3] (spec_l01In.calls a0_1 0 3 true _ A30.out) ?_; intro nd) | (go_at_call 101; (with_reducible refine (spec_l09All.calls k _ _ l0_4 64 5000 t130 _ ?side1 ?side2 A34.out).mono ?_); (case side1 => exact ca (Kd.C_below HR0_4.out (bo HB))); (case side2 => exact HC0_4.out); rintro e w' ⟨rfl, ⟨nd, rfl⟩⟩))
       go_ret
       exact ⟨re, bo HB⟩
      ·rw [if_neg c33] at H
       obtain ⟨c33b0, c33b1⟩ := eqf c33
       obtain rfl := Option.some.inj H
       go_enter Try.func66, Try.ntmps66
       go_wp2_with (first | ((with_reducible refine gate_dst (N := 1) rfl ?_); (try (refine gate_guard (by rfl) ?_; dsimp only)); refine bx 1 #[.int .i64 a0_0, .int .i64 a0_1, .int .i64 a0_2, .int .i64 a0_3, .slice A0_4 l0_4.length c0_4] 63 ?_; intro gb125 hg w37 BK125 hb; have GW125 := ge HB hg; have GE125 := ge HB hg; replace HB := bs HB hb; clear hb hg; obtain ⟨hcz38_0, hcz38_1, hcz38_2, hcz38_3, hcz38_4, hfz38_0, hfz38_1, hfz38_2, hfz38_3, hfz38_4⟩ := cl5 BK125) | ((with_reducible refine gate_callee (f := 58) rfl ?_); refine gD (some 50) Try.func58 #[.int .i64 a0_1, .int .i64 0, .int .i64 3] (spec_l01In.calls a0_1 0 3 true _ A30.out) ?_; intro nd))
       go_ret
       exact ⟨re, bo HB⟩
     ·rw [if_neg c32] at H
      obtain ⟨c32b0, c32b1⟩ := eqf c32
      obtain rfl := Option.some.inj H
      go_enter Try.func66, Try.ntmps66
      go_wp2_with (first | ((with_reducible refine gate_dst (N := 1) rfl ?_); (try (refine gate_guard (by rfl) ?_; dsimp only)); refine bx 1 #[.int .i64 a0_0, .int .i64 a0_1, .int .i64 a0_2, .int .i64 a0_3, .slice A0_4 l0_4.length c0_4] 63 ?_; intro gb125 hg w39 BK125 hb; have GW125 := ge HB hg; have GE125 := ge HB hg; replace HB := bs HB hb; clear hb hg; obtain ⟨hcz40_0, hcz40_1, hcz40_2, hcz40_3, hcz40_4, hfz40_0, hfz40_1, hfz40_2, hfz40_3, hfz40_4⟩ := cl5 BK125) | ((with_reducible refine gate_callee (f := 58) rfl ?_); refine gD (some 50) Try.func58 #[.int .i64 a0_1, .int .i64 0, .int .i64 3] (spec_l01In.calls a0_1 0 3 true _ A30.out) ?_; intro nd))
      go_ret
      exact ⟨re, bo HB⟩
    ·replace c31 := Bool.eq_false_iff.mpr c31
     subst c31
     rw [if_neg nft] at H
     obtain rfl := Option.some.inj H
     go_enter Try.func66, Try.ntmps66
     go_wp2_with (first | ((with_reducible refine gate_dst (N := 1) rfl ?_); (try (refine gate_guard (by rfl) ?_; dsimp only)); refine bx 1 #[.int .i64 a0_0, .int .i64 a0_1, .int .i64 a0_2, .int .i64 a0_3, .slice A0_4 l0_4.length c0_4] 63 ?_; intro gb125 hg w41 BK125 hb; have GW125 := ge HB hg; have GE125 := ge HB hg; replace HB := bs HB hb; clear hb hg; obtain ⟨hcz42_0, hcz42_1, hcz42_2, hcz42_3, hcz42_4, hfz42_0, hfz42_1, hfz42_2, hfz42_3, hfz42_4⟩ := cl5 BK125) | ((with_reducible refine gate_callee (f := 58) rfl ?_); refine gD (some 50) Try.func58 #[.int .i64 a0_1, .int .i64 0, .int .i64 3] (spec_l01In.calls a0_1 0 3 false _ A30.out) ?_; intro nd))
     go_ret
     exact ⟨re, bo HB⟩
   ·rw [if_neg c29] at H
    obtain ⟨c29b0, c29b1⟩ := eqf c29
    obtain rfl := Option.some.inj H
    go_enter Try.func66, Try.ntmps66
    go_wp2_with (first | ((with_reducible refine gate_dst (N := 1) rfl ?_); (try (refine gate_guard (by rfl) ?_; dsimp only)); refine bx 1 #[.int .i64 a0_0, .int .i64 a0_1, .int .i64 a0_2, .int .i64 a0_3, .slice A0_4 l0_4.length c0_4] 63 ?_; intro gb125 hg w43 BK125 hb; have GW125 := ge HB hg; have GE125 := ge HB hg; replace HB := bs HB hb; clear hb hg; obtain ⟨hcz44_0, hcz44_1, hcz44_2, hcz44_3, hcz44_4, hfz44_0, hfz44_1, hfz44_2, hfz44_3, hfz44_4⟩ := cl5 BK125))
    go_ret
    exact ⟨re, bo HB⟩

def spec_Brought.j0 : Nat → Int → Int → Int → Bool → Option (Int)
 | 0, _, _, _, _ => none
 | k + 1, x0, x1, x2, x14 => if x14 = true then (some x1) else (if x0 > x2 then (some x2) else (some x0))
def spec_Brought.f (k : Nat) (a0 : Int) (a1 : Int) (a2 : Int) : Option (Int) := if a2 < a1 then (spec_Brought.j0 k a0 a1 a2 true) else (spec_Brought.j0 k a0 a1 a2 (decide (a0 < a1)))
theorem spec_Brought.calls (k : Nat) (a0 : Int) (a1 : Int) (a2 : Int) (r : Int) (w : World) (h : spec_Brought.f k a0 a1 a2 = some r) :
  Calls Try.prog 108 #[.int .i64 a0, .int .i64 a1, .int .i64 a2] w fun e w' => e = .returned (.int .i64 r) ∧ Drawn0 w w' := by
 have H := h
 clear h
 unfold spec_Brought.f at H
 have HC4 := Aside0.mk H
 clear H
 go_enter Try.func108, Try.ntmps108
 go_upto_region 1 with (fail)
 go_cut [14] (fun v14 wc => ∃ (kq : Nat) (x14_3 : Bool), v14 = .bool x14_3 ∧ Aside0 (spec_Brought.j0 kq a0 a1 a2 x14_3 = some r) ∧ Aside0 (kq ≤ k) ∧ Drawn0 w wc)
 case first =>
  have H := HC4.out
  clear HC4
  by_cases c5 : a2 < a1
  ·rw [if_pos c5] at H
   have c5b0 := decide_eq_true c5
   clear c5
   (first | rw [c5b0] | (simp only [i64_w, i32_w]; rw [c5b0]) | skip)
   have H' := Aside0.mk H
   clear H
   go_wp2
   go_meet
   case rel => exact ⟨_, (true), rv, H', om, dr⟩
  ·rw [if_neg c5] at H
   have c5b0 := decide_eq_false c5
   clear c5
   (first | rw [c5b0] | (simp only [i64_w, i32_w]; rw [c5b0]) | skip)
   have H' := Aside0.mk H
   clear H
   go_wp2
   go_meet
   case rel => exact ⟨_, (decide (a0 < a1)), rv, H', om, dr⟩
 case rest =>
  clear HC4
  obtain ⟨kq, x14_3, rfl, HA, HJ3, ⟨mc3, rfl⟩⟩ := hcut
  cases kq with
  | zero => exact absurd HA.out (by simp [spec_Brought.j0])
  | succ kj3 =>
   have H := HA.out
   clear HA
   simp only [spec_Brought.j0] at H
   by_cases c6 : x14_3 = true
   ·subst c6
    rw [if_pos rfl] at H
    obtain rfl := Option.some.inj H
    go_wp2
    go_ret
    exact ⟨rv, dr⟩
   ·replace c6 := Bool.eq_false_iff.mpr c6
    subst c6
    rw [if_neg nft] at H
    by_cases c7 : a0 > a2
    ·rw [if_pos c7] at H
     have c7b0 : decide (a2 < a0) = true := decide_eq_true c7
     clear c7
     obtain rfl := Option.some.inj H
     go_wp2
     go_ret
     exact ⟨rv, dr⟩
    ·rw [if_neg c7] at H
     have c7b0 : decide (a2 < a0) = false := decide_eq_false c7
     clear c7
     obtain rfl := Option.some.inj H
     go_wp2
     go_ret
     exact ⟨rv, dr⟩

end Go.Proofs.Ytnaccgommclhaaa.QFnExactSquareDots
