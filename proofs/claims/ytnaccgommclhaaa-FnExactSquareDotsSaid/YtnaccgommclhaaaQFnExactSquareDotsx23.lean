/- What the law reaches, as plain functions, each with the proof that its call comes to its answer: written by a program for this claim. -/
import Derived.Test.YtnaccgommclhaaaQFnExactSquareDotsx0
import Derived.Test.YtnaccgommclhaaaQFnExactSquareDotsx14
import Derived.Test.YtnaccgommclhaaaQFnExactSquareDotsx15
import Derived.Test.YtnaccgommclhaaaUFnExactSquareDotsV5
namespace Go.Proofs.Ytnaccgommclhaaa.QFnExactSquareDots
open Go.RowKit Go.Proofs.YtnaccgommclhaaaW.PrintWords Go.Proofs.YtnaccgommclhaaaW.PrintLast Go.Proofs.YtnaccgommclhaaaW.PrintMore Go.Proofs.YtnaccgommclhaaaV
attribute [local go_sem] max2_int min2_int max_two min_two max_three min_three max_four min_four   -- for this text's walks alone
set_option linter.unusedVariables false
set_option linter.unusedSimpArgs false
set_option maxHeartbeats 8000000
set_option maxRecDepth 100000

mutual
def impl_EdgesOf.j0 : Nat → Int → Int → Bool → Int → Int → ByteArray → Option (List Int × List Int × Int × Bool)
 | 0, _, _, _, _, _, _ => none
 | k + 1, x1, x2, x19, x546000, x546001, x546002 => if x19 = true then (some (([] : List Int), ([] : List Int), 0, false)) else (impl_EdgesOf.l0 k x1 x2 0 x546000 x546001 x546002 ([] : List Int) ([] : List Int) (-1))
def impl_EdgesOf.l0 : Nat → Int → Int → Int → Int → Int → ByteArray → List Int → List Int → Int → Option (List Int × List Int × Int × Bool)
 | 0, _, _, _, _, _, _, _, _, _ => none
 | k + 1, x1, x2, x22, x546000, x546001, x546002, x550000, x550001, x550002 => if x22 < 8 then (if x2 > 0 then ((impl_Pic_dot.f x546000 x546001 x546002 (wrap64 (x1 + x22)) (wrap64 (x2 - 1))).bind fun t551 => (if x550000.length < 17592186044416 then ((some (x550000 ++ [t551] : List Int)).bind fun y552 => (if x1 > 0 then ((impl_Pic_dot.f x546000 x546001 x546002 (wrap64 (x1 - 1)) (wrap64 (x2 + x22))).bind fun t555 => (if x550001.length < 17592186044416 then (impl_EdgesOf.l0 k x1 x2 (wrap64 (x22 + 1)) x546000 x546001 x546002 y552 (x550001 ++ [t555]) x550002) else (none))) else (impl_EdgesOf.l0 k x1 x2 (wrap64 (x22 + 1)) x546000 x546001 x546002 y552 x550001 x550002))) else (none))) else (if x1 > 0 then ((impl_Pic_dot.f x546000 x546001 x546002 (wrap64 (x1 - 1)) (wrap64 (x2 + x22))).bind fun t559 => (if x550001.length < 17592186044416 then (impl_EdgesOf.l0 k x1 x2 (wrap64 (x22 + 1)) x546000 x546001 x546002 x550000 (x550001 ++ [t559]) x550002) else (none))) else (impl_EdgesOf.l0 k x1 x2 (wrap64 (x22 + 1)) x546000 x546001 x546002 x550000 x550001 x550002))) else (if x1 > 0 then (if x2 > 0 then ((impl_Pic_dot.f x546000 x546001 x546002 (wrap64 (x1 - 1)) (wrap64 (x2 - 1))).bind fun t550 => (some (x550000, x550001, t550, true))) else (some (x550000, x550001, x550002, true))) else (some (x550000, x550001, x550002, true)))
end
def impl_EdgesOf.f (k : Nat) (a0_0 : Int) (a0_1 : Int) (a0_2 : ByteArray) (a1 : Int) (a2 : Int) : Option (List Int × List Int × Int × Bool) := (impl_PicOk.f a0_0 a0_1 a0_2).bind fun t547 => (if t547 = true then ((impl_Pic_isSquare.f a0_0 a0_1 a0_2 a1 a2).bind fun t548 => (impl_EdgesOf.j0 k a1 a2 (!t548) a0_0 a0_1 a0_2)) else (impl_EdgesOf.j0 k a1 a2 true a0_0 a0_1 a0_2))
def impl_EdgesOf.T8 : Bool × List (List Nat × List Nat) := (true, [([], []), ([0], [0]), ([], []), ([], []), ([], []), ([3, 4], [3, 4]), ([], []), ([6], [6]), ([2, 5, 7], [2, 5, 7]), ([8], [8]), ([1, 9, 8], [1, 9]), ([0, 1, 2, 3, 4, 5, 6, 7, 8, 9, 10], []), ([11, 10, 10, 0, 1, 2, 3, 4, 5, 6, 7, 8, 9, 10], [10, 11])])
def impl_EdgesOf.B8 : List Nat := [0, 1, 0, 0, 0, 24, 0, 64, 252, 508, 1023, 2047, 4095]
theorem impl_EdgesOf.tab8 : rtab .any (opsOf Try.f79 8) = impl_EdgesOf.T8 := by kernel_rfl
theorem impl_EdgesOf.bits8 : waitsOk impl_EdgesOf.T8.2 impl_EdgesOf.B8 = true := by kernel_rfl
def impl_EdgesOf.T10 : Bool × List (List Nat × List Nat) := (true, [([], []), ([0], [0]), ([], []), ([], []), ([3], [3]), ([], []), ([], []), ([5, 6], [5, 6]), ([2, 4, 7], [2, 4, 7]), ([8], [8]), ([1, 9, 8], [1, 9]), ([0, 1, 2, 3, 4, 5, 6, 7, 8, 9, 10], []), ([11, 10, 10, 0, 1, 2, 3, 4, 5, 6, 7, 8, 9, 10], [10, 11])])
def impl_EdgesOf.B10 : List Nat := [0, 1, 0, 0, 8, 0, 0, 96, 252, 508, 1023, 2047, 4095]
theorem impl_EdgesOf.tab10 : rtab .any (opsOf Try.f79 10) = impl_EdgesOf.T10 := by kernel_rfl
theorem impl_EdgesOf.bits10 : waitsOk impl_EdgesOf.T10.2 impl_EdgesOf.B10 = true := by kernel_rfl
theorem impl_EdgesOf.calls (k : Nat) (a0_0 : Int) (a0_1 : Int) (a0_2 : ByteArray) (a1 : Int) (a2 : Int) (r1 : List Int) (r2 : List Int) (r3 : Int) (r4 : Bool) (w : World) (h : impl_EdgesOf.f k a0_0 a0_1 a0_2 a1 a2 = some (r1, r2, r3, r4)) :
  Calls Try.prog 79 #[.agg #[.int .i64 a0_0, .int .i64 a0_1, .string a0_2], .int .i64 a1, .int .i64 a2] w fun e w' => ∃ v0_ v1_ : Value, e = .returned (.tuple #[.agg #[v0_, v1_, .int .i64 r3], .bool r4]) ∧ Kd.R (Kd.int .i64) 3 w' w.heap.size (fun k_ => some k_ ≠ (v1_ : Value).ownBlock) v0_ r1 ∧ Kd.R (Kd.int .i64) 3 w' w.heap.size (fun k_ => some k_ ≠ (v0_ : Value).ownBlock) v1_ r2 ∧ Below w.heap.size w w' := by
 have hu25 := Try.underlying25
 have hu101 := Try.underlying101
 have HB := Aside0.mk (Below.refl w.heap.size w)
 have H := h
 clear h
 unfold impl_EdgesOf.f at H
 have HC4 := Aside0.mk H
 clear H
 go_enter Try.func79, Try.ntmps79
 go_upto_region 1 with (first | ((with_reducible refine gate_dst (N := 3) rfl ?_); refine bx 3 #[.int .i64 a0_0, .int .i64 a0_1, .string a0_2] 25 ?_; intro gb545 hg w5 BK545 hb; have GW545 := ge HB hg; have GE545 := ge HB hg; replace HB := bs HB hb; clear hb hg) | ((with_reducible refine gate_dst (N := 6) rfl ?_); refine bx 6 #[.slice none 0 0, .slice none 0 0, .int .i64 0] 101 ?_; intro gb546 hg w6 BK546 hb; have GW546 := ge HB hg; have GE546 := ge HB hg; have NB545_546 := n1 BK545 hg; have NB546_545 := n2 BK545 hg; replace BK545 := bb BK545 hb; replace HB := bs HB hb; clear hb hg))
 (try simp only [Act.put, List.setIfInBounds_toArray, List.set_cons_zero, List.set_cons_succ])
 go_cut [19] (fun v19 wc => ∃ (kq : Nat) (x19_3 : Bool), v19 = .bool x19_3 ∧ Aside0 (impl_EdgesOf.j0 kq a1 a2 x19_3 a0_0 a0_1 a0_2 = some (r1, r2, r3, r4)) ∧ Aside0 (kq ≤ k) ∧ Aside0 (wc.heap[gb545]? = some (.cells #[.int .i64 a0_0, .int .i64 a0_1, .string a0_2] 25 (0, 0))) ∧ Aside0 (wc.heap[gb546]? = some (.cells #[(.slice none 0 0), (.slice none 0 0), .int .i64 0] 101 (0, 0))) ∧ Aside0 (Below w.heap.size w wc))
 case first =>
  have H := HC4.out
  clear HC4
  replace H := bnd H
  obtain ⟨t547, A7, H⟩ := H
  by_cases c8 : t547 = true
  ·subst c8
   rw [if_pos rfl] at H
   replace H := bnd H
   obtain ⟨t548, A9, H⟩ := H
   have H' := Aside0.mk H
   clear H
   have hnb10 := NB545_546.out
   have hnc10 := NB546_545.out
   obtain ⟨hcz11_0, hcz11_1, hcz11_2, hfz11_0, hfz11_1, hfz11_2⟩ := cl3 BK545
   go_wp2_with (first | ((with_reducible refine gate_callee (f := 43) rfl ?_); refine gL (some 11) Try.func43 #[.agg #[.int .i64 a0_0, .int .i64 a0_1, .string a0_2]] ?_; (with_reducible refine (impl_PicOk.calls a0_0 a0_1 a0_2 true _ A7.out).mono ?_); rintro e w12 ⟨rfl, hb⟩; refine ⟨_, rfl, ?_⟩; replace BK545 := bb BK545 hb; replace BK546 := bb BK546 hb; replace HB := bs HB hb; (try clear hb); obtain ⟨hcz13_0, hcz13_1, hcz13_2, hfz13_0, hfz13_1, hfz13_2⟩ := cl3 BK545) | (go_at_call 73; (with_reducible refine (impl_Pic_isSquare.calls a0_0 a0_1 a0_2 a1 a2 t548 _ A9.out).mono ?_); rintro e w14 ⟨rfl, hb⟩; replace BK545 := bb BK545 hb; replace BK546 := bb BK546 hb; replace HB := bs HB hb; (try clear hb)))
   go_meet
   case rel => exact ⟨_, (!t548), rv, H', om, bk BK545, bk BK546, bh HB⟩
  ·replace c8 := Bool.eq_false_iff.mpr c8
   subst c8
   rw [if_neg nft] at H
   have H' := Aside0.mk H
   clear H
   have hnb15 := NB545_546.out
   have hnc15 := NB546_545.out
   obtain ⟨hcz16_0, hcz16_1, hcz16_2, hfz16_0, hfz16_1, hfz16_2⟩ := cl3 BK545
   go_wp2_with (first | ((with_reducible refine gate_callee (f := 43) rfl ?_); refine gL (some 11) Try.func43 #[.agg #[.int .i64 a0_0, .int .i64 a0_1, .string a0_2]] ?_; (with_reducible refine (impl_PicOk.calls a0_0 a0_1 a0_2 false _ A7.out).mono ?_); rintro e w17 ⟨rfl, hb⟩; refine ⟨_, rfl, ?_⟩; replace BK545 := bb BK545 hb; replace BK546 := bb BK546 hb; replace HB := bs HB hb; (try clear hb)))
   go_meet
   case rel => exact ⟨_, (true), rv, H', om, bk BK545, bk BK546, bh HB⟩
 case rest =>
  clear HC4
  try clear hcz11_0 hcz11_1 hcz11_2 hfz11_0 hfz11_1 hfz11_2
  try clear hcz13_0 hcz13_1 hcz13_2 hfz13_0 hfz13_1 hfz13_2
  try clear hcz16_0 hcz16_1 hcz16_2 hfz16_0 hfz16_1 hfz16_2
  obtain ⟨kq, x19_3, rfl, HA, HJ3, BK545, BK546, HB⟩ := hcut
  cases kq with
  | zero => exact absurd HA.out (by simp [impl_EdgesOf.j0])
  | succ kj3 =>
   have H := HA.out
   clear HA
   simp only [impl_EdgesOf.j0] at H
   by_cases c18 : x19_3 = true
   ·subst c18
    rw [if_pos rfl] at H
    simp only [Option.some.injEq, Prod.mk.injEq] at H
    obtain ⟨rfl, rfl, rfl, rfl⟩ := H
    have hnb19 := NB546_545.out
    have hnc19 := NB545_546.out
    obtain ⟨hcz20_0, hcz20_1, hcz20_2, hfz20_0, hfz20_1, hfz20_2⟩ := cl3 BK546
    go_wp2
    refine bodyPost_ret (results_ct rfl _ _ gb546 101 #[.slice none 0 0, .slice none 0 0, .int .i64 0] (0, 0) _ rfl (by (with_reducible repeat (first | refine blk_drewN ?_ _ | refine blk_drew ?_ | refine blk_alloc ?_ _)); refine blk_put (cs := #[.slice none 0 0, .slice none 0 0, .int .i64 0]) ?_ 2 _ rfl; (with_reducible repeat (first | refine blk_drewN ?_ _ | refine blk_drew ?_ | refine blk_alloc ?_ _)); refine blk_put (cs := #[.slice none 0 0, .slice none 0 0, .int .i64 0]) ?_ 1 _ rfl; (with_reducible repeat (first | refine blk_drewN ?_ _ | refine blk_drew ?_ | refine blk_alloc ?_ _)); refine blk_put (cs := #[.slice none 0 0, .slice none 0 0, .int .i64 0]) ?_ 0 _ rfl; (with_reducible repeat (first | refine blk_drewN ?_ _ | refine blk_drew ?_ | refine blk_alloc ?_ _)); exact BK546.out) Try.underlying101 rfl (by kernel_rfl)) rfl ?_
    exact ⟨_, _, re, by first | exact Kd.R_nil _ _ _ _ _ | exact Kd.N_nil _ _ _ _ _ | exact Kd.V_nil _ _ _ _ _ | exact Kd.Q_nil _ _ _ _ _ | exact Kd.S_nil _ _ _ _ _, by first | exact Kd.R_nil _ _ _ _ _ | exact Kd.N_nil _ _ _ _ _ | exact Kd.V_nil _ _ _ _ _ | exact Kd.Q_nil _ _ _ _ _ | exact Kd.S_nil _ _ _ _ _, bo HB⟩
   ·replace c18 := Bool.eq_false_iff.mpr c18
    subst c18
    rw [if_neg nft] at H
    have H' := Aside0.mk H
    clear H
    go_wp2_with (first | ((with_reducible refine gate_dst (N := 8) rfl ?_); refine bx 8 #[.slice none 0 0, .slice none 0 0, .int .i64 0] 101 ?_; intro gb549 hg w21 BK549 hb; have GW549 := ge HB hg; have GE549 := ge HB hg; have NB545_549 := n1 BK545 hg; have NB549_545 := n2 BK545 hg; have NB546_549 := n1 BK546 hg; have NB549_546 := n2 BK546 hg; replace BK545 := bb BK545 hb; replace BK546 := bb BK546 hb; replace HB := bs HB hb; clear hb hg; have hnb22 := NB549_545.out; have hnc22 := NB545_549.out; have hnb23 := NB549_546.out; have hnc23 := NB546_549.out; obtain ⟨hcz24_0, hcz24_1, hcz24_2, hfz24_0, hfz24_1, hfz24_2⟩ := cl3 BK549))
    go_loopg [22] kj3 (fun kq v22 w' => ∃ (x22_2 : Int) (x550000_2 : List Int) (x550001_2 : List Int) (u550000 : Value) (u550001 : Value), v22 = .int .i64 x22_2 ∧ Aside0 (impl_EdgesOf.l0 kq a1 a2 x22_2 a0_0 a0_1 a0_2 x550000_2 x550001_2 (-1) = some (r1, r2, r3, r4)) ∧ Aside0 (kq ≤ kj3) ∧ Aside0 (Kd.R (Kd.int .i64) 3 w' w.heap.size (fun k_ => some k_ ≠ (u550001 : Value).ownBlock) u550000 x550000_2) ∧ Aside0 (Kd.R (Kd.int .i64) 3 w' w.heap.size (fun k_ => some k_ ≠ (u550000 : Value).ownBlock) u550001 x550001_2) ∧ Aside0 (w'.heap[gb545]? = some (.cells #[.int .i64 a0_0, .int .i64 a0_1, .string a0_2] 25 (0, 0))) ∧ Aside0 (w'.heap[gb546]? = some (.cells #[(.slice none 0 0), (.slice none 0 0), .int .i64 0] 101 (0, 0))) ∧ Aside0 (w'.heap[gb549]? = some (.cells #[u550000, u550001, .int .i64 (-1)] 101 (0, 0))) ∧ Aside0 (Below w.heap.size w w'))
    case atStart => exact ⟨(0), (([] : List Int)), (([] : List Int)), (.slice none 0 0), (.slice none 0 0), rv, H', ⟨Nat.le_refl _⟩, ⟨by first | exact Kd.R_nil _ _ _ _ _ | exact Kd.N_nil _ _ _ _ _ | exact Kd.V_nil _ _ _ _ _ | exact Kd.Q_nil _ _ _ _ _ | exact Kd.S_nil _ _ _ _ _⟩, ⟨by first | exact Kd.R_nil _ _ _ _ _ | exact Kd.N_nil _ _ _ _ _ | exact Kd.V_nil _ _ _ _ _ | exact Kd.Q_nil _ _ _ _ _ | exact Kd.S_nil _ _ _ _ _⟩, ⟨by (with_reducible repeat (first | refine blk_drewN ?_ _ | refine blk_drew ?_ | refine blk_alloc ?_ _)); refine blk_far ?_ NB545_549.out _; (with_reducible repeat (first | refine blk_drewN ?_ _ | refine blk_drew ?_ | refine blk_alloc ?_ _)); refine blk_far ?_ NB545_549.out _; (with_reducible repeat (first | refine blk_drewN ?_ _ | refine blk_drew ?_ | refine blk_alloc ?_ _)); refine blk_far ?_ NB545_549.out _; (with_reducible repeat (first | refine blk_drewN ?_ _ | refine blk_drew ?_ | refine blk_alloc ?_ _)); exact BK545.out⟩, ⟨by (with_reducible repeat (first | refine blk_drewN ?_ _ | refine blk_drew ?_ | refine blk_alloc ?_ _)); refine blk_far ?_ NB546_549.out _; (with_reducible repeat (first | refine blk_drewN ?_ _ | refine blk_drew ?_ | refine blk_alloc ?_ _)); refine blk_far ?_ NB546_549.out _; (with_reducible repeat (first | refine blk_drewN ?_ _ | refine blk_drew ?_ | refine blk_alloc ?_ _)); refine blk_far ?_ NB546_549.out _; (with_reducible repeat (first | refine blk_drewN ?_ _ | refine blk_drew ?_ | refine blk_alloc ?_ _)); exact BK546.out⟩, ⟨by (with_reducible repeat (first | refine blk_drewN ?_ _ | refine blk_drew ?_ | refine blk_alloc ?_ _)); refine blk_put (cs := #[.slice none 0 0, .slice none 0 0, .int .i64 0]) ?_ 2 _ rfl; (with_reducible repeat (first | refine blk_drewN ?_ _ | refine blk_drew ?_ | refine blk_alloc ?_ _)); refine blk_put (cs := #[.slice none 0 0, .slice none 0 0, .int .i64 0]) ?_ 1 _ rfl; (with_reducible repeat (first | refine blk_drewN ?_ _ | refine blk_drew ?_ | refine blk_alloc ?_ _)); refine blk_put (cs := #[.slice none 0 0, .slice none 0 0, .int .i64 0]) ?_ 0 _ rfl; (with_reducible repeat (first | refine blk_drewN ?_ _ | refine blk_drew ?_ | refine blk_alloc ?_ _)); exact BK549.out⟩, bh HB⟩
    case round =>
     clear H'
     try clear hcz11_0 hcz11_1 hcz11_2 hfz11_0 hfz11_1 hfz11_2
     try clear hcz13_0 hcz13_1 hcz13_2 hfz13_0 hfz13_1 hfz13_2
     try clear hcz16_0 hcz16_1 hcz16_2 hfz16_0 hfz16_1 hfz16_2
     try clear hcz20_0 hcz20_1 hcz20_2 hfz20_0 hfz20_1 hfz20_2
     try clear hcz24_0 hcz24_1 hcz24_2 hfz24_0 hfz24_1 hfz24_2
     obtain ⟨x22_2, x550000_2, x550001_2, u550000, u550001, rfl, HA, HK2, HO_550000, HO_550001, BK545, BK546, BK549, HB⟩ := hrel
     cases gk with
     | zero => exact absurd HA.out (by simp [impl_EdgesOf.l0])
     | succ k2 =>
      have H := HA.out
      clear HA
      simp only [impl_EdgesOf.l0] at H
      by_cases c25 : x22_2 < 8
      ·rw [if_pos c25] at H
       have c25b0 := decide_eq_true c25
       clear c25
       by_cases c26 : a2 > 0
       ·rw [if_pos c26] at H
        have c26b0 : decide (0 < a2) = true := decide_eq_true c26
        clear c26
        replace H := bnd H
        obtain ⟨t551, A27, H⟩ := H
        by_cases c28 : x550000_2.length < 17592186044416
        ·rw [if_pos c28] at H
         have LMc28 := Aside0.mk c28
         clear c28
         replace H := yl H
         obtain ⟨y552, Ny552, H⟩ := H
         by_cases c29 : a1 > 0
         ·rw [if_pos c29] at H
          have c29b0 : decide (0 < a1) = true := decide_eq_true c29
          clear c29
          replace H := bnd H
          obtain ⟨t555, A30, H⟩ := H
          by_cases c31 : x550001_2.length < 17592186044416
          ·rw [if_pos c31] at H
           have LMc31 := Aside0.mk c31
           clear c31
           obtain ⟨y556, hy556⟩ : ∃ y_ : List Int, y_ = (x550001_2 ++ [t555]) := ⟨_, rfl⟩
           replace H : (impl_EdgesOf.l0 k2 a1 a2 (wrap64 (x22_2 + 1)) a0_0 a0_1 a0_2 y552 y556 (-1)) = some (r1, r2, r3, r4) := by subst hy556; exact H
           have Ny556 := Aside0.mk hy556
           clear hy556
           have H' := Aside0.mk H
           clear H
           try go_wp2
           replace HO_550000 := Aside0.mk (Kd.R_drew HO_550000.out)
           replace HO_550001 := Aside0.mk (Kd.R_drew HO_550001.out)
           replace BK545 := Aside0.mk (blk_drew BK545.out)
           replace BK546 := Aside0.mk (blk_drew BK546.out)
           replace BK549 := Aside0.mk (blk_drew BK549.out)
           replace HB := Aside0.mk (below_drew1 HB.out)
           refine start_ (n := 13) (S := fun w' => w'.cell? ⟨gb549, 0, none⟩ = some (u550000) ∧ w'.cell? ⟨gb549, 1, none⟩ = some (u550001) ∧ w'.cell? ⟨gb549, 2, none⟩ = some (.int .i64 (-1)) ∧ w'.cell? ⟨gb545, 0, none⟩ = some (.int .i64 a0_0) ∧ w'.cell? ⟨gb545, 1, none⟩ = some (.int .i64 a0_1) ∧ w'.cell? ⟨gb545, 2, none⟩ = some (.string a0_2)) (ds := [12]) (ba 13 0) (by kernel_rfl) rfl rfl ⟨bc BK549 0, bc BK549 1, bc BK549 2, bc BK545 0, bc BK545 1, bc BK545 2⟩ (fun hHeld => ?_); refine with_tabW impl_EdgesOf.tab8 impl_EdgesOf.bits8 (fun HT_ HW_ => ?_)
           generalize wr.drew = w32 at HO_550000 HO_550001 BK545 BK546 BK549 HB hHeld ⊢
           refine pu 0 27 (ba 13 1) ?_
           refine pu 3 30 (ba 13 9) ?_
           refine pu 4 31 (ba 13 25) ?_
           refine pu 5 32 (ba 13 57) ?_
           refine pu 6 33 (ba 13 121) ?_
           refine pu 7 34 (ba 13 249) ?_
           refine tk 1 28 (ba 13 251) hHeld ?_
           refine tk 2 29 (ba 13 255) hHeld ?_
           refine on 8 35 (ba 13 511) (fun K hK => ?_)
           refine gS Try.func51 #[.agg #[.int .i64 a0_0, .int .i64 a0_1, .string a0_2], .int .i64 (wrap64 (a1 + x22_2)), .int .i64 (wrap64 (a2 - 1))] ?_
           with_reducible refine (impl_Pic_dot.calls a0_0 a0_1 a0_2 (wrap64 (a1 + x22_2)) (wrap64 (a2 - 1)) t551 _ A27.out).mono ?_
           rintro e w33 ⟨rfl, hb⟩
           refine ⟨_, rfl, ?_⟩
           replace HO_550000 := Aside0.mk (Kd.R_below (ro HO_550000.out) hb)
           replace HO_550001 := Aside0.mk (Kd.R_below (ro HO_550001.out) hb)
           replace BK545 := bb BK545 hb
           replace BK546 := bb BK546 hb
           replace BK549 := bb BK549 hb
           replace HB := bs HB hb
           (try clear hb)
           (try clear hb2)
           (try clear hk)
           (try clear hi)
           refine hK.out _ _ ⟨bc BK549 0, bc BK549 1, bc BK549 2, bc BK545 0, bc BK545 1, bc BK545 2⟩ (fun hHeld => ?_)
           clear hK K
           refine nm ?_
           refine on 9 36 (ba 13 1023) (fun K hK => ?_)
           refine value_ (w1 := ?_) (v := ?_) (by rfl) rfl ?_ ?_
           rotate_left 2
           ·go_simp
            constructor
            ·rfl
            ·rfl
           refine hK.out _ _ ⟨(blk_cell (blk_alloc BK549.out _) 0).trans rfl, (blk_cell (blk_alloc BK549.out _) 1).trans rfl, (blk_cell (blk_alloc BK549.out _) 2).trans rfl, (blk_cell (blk_alloc BK545.out _) 0).trans rfl, (blk_cell (blk_alloc BK545.out _) 1).trans rfl, (blk_cell (blk_alloc BK545.out _) 2).trans rfl⟩ (fun hHeld => ?_)
           clear hK K
           refine nm ?_
           refine on 10 37 (ba 13 2047) (fun K hK => ?_)
           refine Kd.R_append_step (Kd.int .i64) (w0 := w) w.heap.size (by rfl) (.tmp 28) (.tmp 36) 35 3 (.int .i64 0) 8 rfl Try.underlying35 info3 rfl (by decide) (by omega) u550000 x550000_2 t551 [.int .i64 t551] (fun k_ => some k_ ≠ (u550001 : Value).ownBlock) (fun _ => False) rfl rfl ?aP (fun _ hk => hk.elim) ?aF ?aO ?aB ?aS ?aL ?_
           (case aP => exact rfl)
           (case aB => exact (bo HB))
           (case aF => exact (fun k_ hk => Kd.fresh' (Kd.R_lt (ro HO_550001.out)) k_ hk))
           (case aO => exact (ro HO_550000.out))
           (case aS => exact (below_size (bo HB)))
           (case aL => have := LMc28.out; omega)
           intro v553 w34 ho hb hg hat
           rw [← Ny552.out] at ho
           have HO554 := Aside0.mk (ho)
           replace HO_550001 := Aside0.mk (Kd.R_after (ok := (fun _ => True)) (ro (Kd.R_mono HO_550001.out (fun _ hk => ⟨trivial, hk⟩))) hg hat)
           replace BK545 := Aside0.mk (blk_grown (bt BK545) hg (Kd.R_ne HO_550000.out BK545.out (by decide)))
           replace BK546 := Aside0.mk (blk_grown (bt BK546) hg (Kd.R_ne HO_550000.out BK546.out (by decide)))
           replace BK549 := Aside0.mk (blk_grown (bt BK549) hg (Kd.R_ne HO_550000.out BK549.out (by decide)))
           replace HB := Aside0.mk (hb)
           clear HO_550000
           clear ho hb hg hat
           obtain ⟨Ao35, co35, eo35⟩ := Kd.R_slice HO554.out
           (first | subst eo35 | (injection eo35 with f1_ f2_ f3_; have f4_ := f1_.symm; have f5_ := f3_.symm; clear f1_ f2_ f3_; subst f4_; subst f5_))
           refine hK.out _ _ ⟨bc BK549 0, bc BK549 1, bc BK549 2, bc BK545 0, bc BK545 1, bc BK545 2⟩ (fun hHeld => ?_)
           clear hK K
           refine nm ?_
           refine pu 11 38 (ba 13 4095) ?_
           refine last_ (i := 12) (N := none) (ba 13 8191) rfl rfl (one_of HT_.out (by kernel_rfl)) (by decide) (fun K hK => ?_)
           have hs36 : w34.cell? ⟨gb549, 0, none⟩ = some (u550000) := bc BK549 0
           have hfs36 := blk_frozen BK549.out 0
           have hns36_0 := NB545_549.out
           have hns36_1 := NB546_549.out
           have hms36_0 := NB549_545.out
           have hms36_1 := NB549_546.out
           refine skip_ (w1 := ?_) (by rfl) rfl ?_ ?_
           rotate_left
           ·go_simp
            rfl
           refine hK.out _ _ ?_
           clear hK K
           refine done_ (done_of HT_.out (by kernel_rfl)) ?_
           try go_wp2
           have n0_ : Aside0 (Kd.R (Kd.int .i64) 3 (w34.setCell ⟨gb549, 0, none⟩ (.slice Ao35 y552.length co35)) w.heap.size (fun k_ => some k_ ≠ (.slice Ao35 y552.length co35 : Value).ownBlock) u550001 x550001_2) := (ra (Kd.R_mono (Kd.R_far (p := ⟨gb549, 0, none⟩) (Kd.R_types HO_550001.out BK549.out (by decide)) (fun _ hk => hk.2) (.slice Ao35 y552.length co35)) (fun _ hk => hk.1.2)))
           have n1_ : Aside0 (Kd.R (Kd.int .i64) 3 (w34.setCell ⟨gb549, 0, none⟩ (.slice Ao35 y552.length co35)) w.heap.size (fun k_ => some k_ ≠ (u550001 : Value).ownBlock) (.slice Ao35 y552.length co35) y552) := (ra (Kd.R_mono (Kd.R_far (p := ⟨gb549, 0, none⟩) (Kd.R_types HO554.out BK549.out (by decide)) (fun _ hk => hk.2) (.slice Ao35 y552.length co35)) (fun _ hk => hk.1)))
           have n2_ : Aside0 ((w34.setCell ⟨gb549, 0, none⟩ (.slice Ao35 y552.length co35)).heap[gb545]? = some (.cells #[.int .i64 a0_0, .int .i64 a0_1, .string a0_2] 25 (0, 0))) := ⟨by (with_reducible repeat (first | refine blk_drewN ?_ _ | refine blk_drew ?_ | refine blk_alloc ?_ _)); refine blk_far ?_ NB545_549.out _; (with_reducible repeat (first | refine blk_drewN ?_ _ | refine blk_drew ?_ | refine blk_alloc ?_ _)); exact BK545.out⟩
           have n3_ : Aside0 ((w34.setCell ⟨gb549, 0, none⟩ (.slice Ao35 y552.length co35)).heap[gb546]? = some (.cells #[.slice none 0 0, .slice none 0 0, .int .i64 0] 101 (0, 0))) := ⟨by (with_reducible repeat (first | refine blk_drewN ?_ _ | refine blk_drew ?_ | refine blk_alloc ?_ _)); refine blk_far ?_ NB546_549.out _; (with_reducible repeat (first | refine blk_drewN ?_ _ | refine blk_drew ?_ | refine blk_alloc ?_ _)); exact BK546.out⟩
           have n4_ : Aside0 ((w34.setCell ⟨gb549, 0, none⟩ (.slice Ao35 y552.length co35)).heap[gb549]? = some (.cells #[.slice Ao35 y552.length co35, u550001, .int .i64 (-1)] 101 (0, 0))) := ⟨by (with_reducible repeat (first | refine blk_drewN ?_ _ | refine blk_drew ?_ | refine blk_alloc ?_ _)); refine blk_put (cs := #[u550000, u550001, .int .i64 (-1)]) ?_ 0 _ rfl; (with_reducible repeat (first | refine blk_drewN ?_ _ | refine blk_drew ?_ | refine blk_alloc ?_ _)); exact BK549.out⟩
           have n5_ : Aside0 (Below w.heap.size w (w34.setCell ⟨gb549, 0, none⟩ (.slice Ao35 y552.length co35))) := bh HB
           (try clear HO_550001)
           (try clear HO554)
           (try clear BK545)
           (try clear BK546)
           (try clear BK549)
           (try clear HB)
           generalize (w34.setCell ⟨gb549, 0, none⟩ (.slice Ao35 y552.length co35)) = w37 at n0_ n1_ n2_ n3_ n4_ n5_ ⊢
           have HO_550001 := n0_
           have HO554 := n1_
           have BK545 := n2_
           have BK546 := n3_
           have BK549 := n4_
           have HB := n5_
           clear n0_ n1_ n2_ n3_ n4_ n5_
           replace HO_550001 := Aside0.mk (Kd.R_drew HO_550001.out)
           replace HO554 := Aside0.mk (Kd.R_drew HO554.out)
           replace BK545 := Aside0.mk (blk_drew BK545.out)
           replace BK546 := Aside0.mk (blk_drew BK546.out)
           replace BK549 := Aside0.mk (blk_drew BK549.out)
           replace HB := Aside0.mk (below_drew1 HB.out)
           refine start_ (n := 13) (S := fun w' => w'.cell? ⟨gb549, 0, none⟩ = some (.slice Ao35 y552.length co35) ∧ w'.cell? ⟨gb549, 1, none⟩ = some (u550001) ∧ w'.cell? ⟨gb549, 2, none⟩ = some (.int .i64 (-1)) ∧ w'.cell? ⟨gb545, 0, none⟩ = some (.int .i64 a0_0) ∧ w'.cell? ⟨gb545, 1, none⟩ = some (.int .i64 a0_1) ∧ w'.cell? ⟨gb545, 2, none⟩ = some (.string a0_2)) (ds := [12]) (ba 13 0) (by kernel_rfl) rfl rfl ⟨bc BK549 0, bc BK549 1, bc BK549 2, bc BK545 0, bc BK545 1, bc BK545 2⟩ (fun hHeld => ?_); refine with_tabW impl_EdgesOf.tab10 impl_EdgesOf.bits10 (fun HT_ HW_ => ?_)
           generalize w37.drew = w38 at HO_550001 HO554 BK545 BK546 BK549 HB hHeld ⊢
           refine pu 0 41 (ba 13 1) ?_
           refine pu 3 44 (ba 13 9) ?_
           refine pu 4 45 (ba 13 25) ?_
           refine pu 5 46 (ba 13 57) ?_
           refine pu 6 47 (ba 13 121) ?_
           refine pu 7 48 (ba 13 249) ?_
           refine tk 1 42 (ba 13 251) hHeld ?_
           refine tk 2 43 (ba 13 255) hHeld ?_
           refine on 8 49 (ba 13 511) (fun K hK => ?_)
           refine gS Try.func51 #[.agg #[.int .i64 a0_0, .int .i64 a0_1, .string a0_2], .int .i64 (wrap64 (a1 - 1)), .int .i64 (wrap64 (a2 + x22_2))] ?_
           with_reducible refine (impl_Pic_dot.calls a0_0 a0_1 a0_2 (wrap64 (a1 - 1)) (wrap64 (a2 + x22_2)) t555 _ A30.out).mono ?_
           rintro e w39 ⟨rfl, hb⟩
           refine ⟨_, rfl, ?_⟩
           replace HO_550001 := Aside0.mk (Kd.R_below (ro HO_550001.out) hb)
           replace HO554 := Aside0.mk (Kd.R_below (ro HO554.out) hb)
           replace BK545 := bb BK545 hb
           replace BK546 := bb BK546 hb
           replace BK549 := bb BK549 hb
           replace HB := bs HB hb
           (try clear hb)
           (try clear hb2)
           (try clear hk)
           (try clear hi)
           refine hK.out _ _ ⟨bc BK549 0, bc BK549 1, bc BK549 2, bc BK545 0, bc BK545 1, bc BK545 2⟩ (fun hHeld => ?_)
           clear hK K
           refine nm ?_
           refine on 9 50 (ba 13 1023) (fun K hK => ?_)
           refine value_ (w1 := ?_) (v := ?_) (by rfl) rfl ?_ ?_
           rotate_left 2
           ·go_simp
            constructor
            ·rfl
            ·rfl
           refine hK.out _ _ ⟨(blk_cell (blk_alloc BK549.out _) 0).trans rfl, (blk_cell (blk_alloc BK549.out _) 1).trans rfl, (blk_cell (blk_alloc BK549.out _) 2).trans rfl, (blk_cell (blk_alloc BK545.out _) 0).trans rfl, (blk_cell (blk_alloc BK545.out _) 1).trans rfl, (blk_cell (blk_alloc BK545.out _) 2).trans rfl⟩ (fun hHeld => ?_)
           clear hK K
           refine nm ?_
           refine on 10 51 (ba 13 2047) (fun K hK => ?_)
           refine Kd.R_append_step (Kd.int .i64) (w0 := w) w.heap.size (by rfl) (.tmp 42) (.tmp 50) 35 3 (.int .i64 0) 8 rfl Try.underlying35 info3 rfl (by decide) (by omega) u550001 x550001_2 t555 [.int .i64 t555] (fun k_ => some k_ ≠ (.slice Ao35 y552.length co35 : Value).ownBlock) (fun _ => False) rfl rfl ?aP (fun _ hk => hk.elim) ?aF ?aO ?aB ?aS ?aL ?_
           (case aP => exact rfl)
           (case aB => exact (bo HB))
           (case aF => exact (fun k_ hk => Kd.fresh' (Kd.R_lt (ro HO554.out)) k_ hk))
           (case aO => exact (ro HO_550001.out))
           (case aS => exact (below_size (bo HB)))
           (case aL => have := LMc31.out; omega)
           intro v557 w40 ho hb hg hat
           rw [← Ny556.out] at ho
           have HO558 := Aside0.mk (ho)
           replace BK545 := Aside0.mk (blk_grown (bt BK545) hg (Kd.R_ne HO_550001.out BK545.out (by decide)))
           replace BK546 := Aside0.mk (blk_grown (bt BK546) hg (Kd.R_ne HO_550001.out BK546.out (by decide)))
           replace BK549 := Aside0.mk (blk_grown (bt BK549) hg (Kd.R_ne HO_550001.out BK549.out (by decide)))
           replace HO554 := Aside0.mk (Kd.R_after (ok := (fun _ => True)) (ro (Kd.R_mono HO554.out (fun _ hk => ⟨trivial, hk⟩))) hg hat)
           replace HB := Aside0.mk (hb)
           clear HO_550001
           clear ho hb hg hat
           obtain ⟨Ao41, co41, eo41⟩ := Kd.R_slice HO558.out
           (first | subst eo41 | (injection eo41 with f1_ f2_ f3_; have f4_ := f1_.symm; have f5_ := f3_.symm; clear f1_ f2_ f3_; subst f4_; subst f5_))
           refine hK.out _ _ ⟨bc BK549 0, bc BK549 1, bc BK549 2, bc BK545 0, bc BK545 1, bc BK545 2⟩ (fun hHeld => ?_)
           clear hK K
           refine nm ?_
           refine pu 11 52 (ba 13 4095) ?_
           refine last_ (i := 12) (N := none) (ba 13 8191) rfl rfl (one_of HT_.out (by kernel_rfl)) (by decide) (fun K hK => ?_)
           have hs42 : w40.cell? ⟨gb549, 1, none⟩ = some (u550001) := bc BK549 1
           have hfs42 := blk_frozen BK549.out 1
           have hns42_0 := NB545_549.out
           have hns42_1 := NB546_549.out
           have hms42_0 := NB549_545.out
           have hms42_1 := NB549_546.out
           refine skip_ (w1 := ?_) (by rfl) rfl ?_ ?_
           rotate_left
           ·go_simp
            rfl
           refine hK.out _ _ ?_
           clear hK K
           refine done_ (done_of HT_.out (by kernel_rfl)) ?_
           try go_wp2
           go_roundg k2
           case measure => have := HJ3.out; have := HK2.out; omega
           case rel => exact ⟨(wrap64 (x22_2 + 1)), (y552), (y556), (.slice Ao35 y552.length co35), (.slice Ao41 y556.length co41), rv, H', ⟨by have := HJ3.out; have := HK2.out; omega⟩, (ra (Kd.R_mono (Kd.R_far (p := ⟨gb549, 1, none⟩) (Kd.R_types HO554.out BK549.out (by decide)) (fun _ hk => hk.2) (.slice Ao41 y556.length co41)) (fun _ hk => hk.1.2))), (ra (Kd.R_mono (Kd.R_far (p := ⟨gb549, 1, none⟩) (Kd.R_types HO558.out BK549.out (by decide)) (fun _ hk => hk.2) (.slice Ao41 y556.length co41)) (fun _ hk => hk.1))), ⟨by (with_reducible repeat (first | refine blk_drewN ?_ _ | refine blk_drew ?_ | refine blk_alloc ?_ _)); refine blk_far ?_ NB545_549.out _; (with_reducible repeat (first | refine blk_drewN ?_ _ | refine blk_drew ?_ | refine blk_alloc ?_ _)); exact BK545.out⟩, ⟨by (with_reducible repeat (first | refine blk_drewN ?_ _ | refine blk_drew ?_ | refine blk_alloc ?_ _)); refine blk_far ?_ NB546_549.out _; (with_reducible repeat (first | refine blk_drewN ?_ _ | refine blk_drew ?_ | refine blk_alloc ?_ _)); exact BK546.out⟩, ⟨by (with_reducible repeat (first | refine blk_drewN ?_ _ | refine blk_drew ?_ | refine blk_alloc ?_ _)); refine blk_put (cs := #[.slice Ao35 y552.length co35, u550001, .int .i64 (-1)]) ?_ 1 _ rfl; (with_reducible repeat (first | refine blk_drewN ?_ _ | refine blk_drew ?_ | refine blk_alloc ?_ _)); exact BK549.out⟩, bh HB⟩
          ·rw [if_neg c31] at H
           exact absurd H (by simp)
         ·rw [if_neg c29] at H
          have c29b0 : decide (0 < a1) = false := decide_eq_false c29
          clear c29
          have H' := Aside0.mk H
          clear H
          try go_wp2
          replace HO_550000 := Aside0.mk (Kd.R_drew HO_550000.out)
          replace HO_550001 := Aside0.mk (Kd.R_drew HO_550001.out)
          replace BK545 := Aside0.mk (blk_drew BK545.out)
          replace BK546 := Aside0.mk (blk_drew BK546.out)
          replace BK549 := Aside0.mk (blk_drew BK549.out)
          replace HB := Aside0.mk (below_drew1 HB.out)
          refine start_ (n := 13) (S := fun w' => w'.cell? ⟨gb549, 0, none⟩ = some (u550000) ∧ w'.cell? ⟨gb549, 1, none⟩ = some (u550001) ∧ w'.cell? ⟨gb549, 2, none⟩ = some (.int .i64 (-1)) ∧ w'.cell? ⟨gb545, 0, none⟩ = some (.int .i64 a0_0) ∧ w'.cell? ⟨gb545, 1, none⟩ = some (.int .i64 a0_1) ∧ w'.cell? ⟨gb545, 2, none⟩ = some (.string a0_2)) (ds := [12]) (ba 13 0) (by kernel_rfl) rfl rfl ⟨bc BK549 0, bc BK549 1, bc BK549 2, bc BK545 0, bc BK545 1, bc BK545 2⟩ (fun hHeld => ?_); refine with_tabW impl_EdgesOf.tab8 impl_EdgesOf.bits8 (fun HT_ HW_ => ?_)
          generalize wr.drew = w43 at HO_550000 HO_550001 BK545 BK546 BK549 HB hHeld ⊢
          refine pu 0 27 (ba 13 1) ?_
          refine pu 3 30 (ba 13 9) ?_
          refine pu 4 31 (ba 13 25) ?_
          refine pu 5 32 (ba 13 57) ?_
          refine pu 6 33 (ba 13 121) ?_
          refine pu 7 34 (ba 13 249) ?_
          refine tk 1 28 (ba 13 251) hHeld ?_
          refine tk 2 29 (ba 13 255) hHeld ?_
          refine on 8 35 (ba 13 511) (fun K hK => ?_)
          refine gS Try.func51 #[.agg #[.int .i64 a0_0, .int .i64 a0_1, .string a0_2], .int .i64 (wrap64 (a1 + x22_2)), .int .i64 (wrap64 (a2 - 1))] ?_
          with_reducible refine (impl_Pic_dot.calls a0_0 a0_1 a0_2 (wrap64 (a1 + x22_2)) (wrap64 (a2 - 1)) t551 _ A27.out).mono ?_
          rintro e w44 ⟨rfl, hb⟩
          refine ⟨_, rfl, ?_⟩
          replace HO_550000 := Aside0.mk (Kd.R_below (ro HO_550000.out) hb)
          replace HO_550001 := Aside0.mk (Kd.R_below (ro HO_550001.out) hb)
          replace BK545 := bb BK545 hb
          replace BK546 := bb BK546 hb
          replace BK549 := bb BK549 hb
          replace HB := bs HB hb
          (try clear hb)
          (try clear hb2)
          (try clear hk)
          (try clear hi)
          refine hK.out _ _ ⟨bc BK549 0, bc BK549 1, bc BK549 2, bc BK545 0, bc BK545 1, bc BK545 2⟩ (fun hHeld => ?_)
          clear hK K
          refine nm ?_
          refine on 9 36 (ba 13 1023) (fun K hK => ?_)
          refine value_ (w1 := ?_) (v := ?_) (by rfl) rfl ?_ ?_
          rotate_left 2
          ·go_simp
           constructor
           ·rfl
           ·rfl
          refine hK.out _ _ ⟨(blk_cell (blk_alloc BK549.out _) 0).trans rfl, (blk_cell (blk_alloc BK549.out _) 1).trans rfl, (blk_cell (blk_alloc BK549.out _) 2).trans rfl, (blk_cell (blk_alloc BK545.out _) 0).trans rfl, (blk_cell (blk_alloc BK545.out _) 1).trans rfl, (blk_cell (blk_alloc BK545.out _) 2).trans rfl⟩ (fun hHeld => ?_)
          clear hK K
          refine nm ?_
          refine on 10 37 (ba 13 2047) (fun K hK => ?_)
          refine Kd.R_append_step (Kd.int .i64) (w0 := w) w.heap.size (by rfl) (.tmp 28) (.tmp 36) 35 3 (.int .i64 0) 8 rfl Try.underlying35 info3 rfl (by decide) (by omega) u550000 x550000_2 t551 [.int .i64 t551] (fun k_ => some k_ ≠ (u550001 : Value).ownBlock) (fun _ => False) rfl rfl ?aP (fun _ hk => hk.elim) ?aF ?aO ?aB ?aS ?aL ?_
          (case aP => exact rfl)
          (case aB => exact (bo HB))
          (case aF => exact (fun k_ hk => Kd.fresh' (Kd.R_lt (ro HO_550001.out)) k_ hk))
          (case aO => exact (ro HO_550000.out))
          (case aS => exact (below_size (bo HB)))
          (case aL => have := LMc28.out; omega)
          intro v553 w45 ho hb hg hat
          rw [← Ny552.out] at ho
          have HO554 := Aside0.mk (ho)
          replace HO_550001 := Aside0.mk (Kd.R_after (ok := (fun _ => True)) (ro (Kd.R_mono HO_550001.out (fun _ hk => ⟨trivial, hk⟩))) hg hat)
          replace BK545 := Aside0.mk (blk_grown (bt BK545) hg (Kd.R_ne HO_550000.out BK545.out (by decide)))
          replace BK546 := Aside0.mk (blk_grown (bt BK546) hg (Kd.R_ne HO_550000.out BK546.out (by decide)))
          replace BK549 := Aside0.mk (blk_grown (bt BK549) hg (Kd.R_ne HO_550000.out BK549.out (by decide)))
          replace HB := Aside0.mk (hb)
          clear HO_550000
          clear ho hb hg hat
          obtain ⟨Ao46, co46, eo46⟩ := Kd.R_slice HO554.out
          (first | subst eo46 | (injection eo46 with f1_ f2_ f3_; have f4_ := f1_.symm; have f5_ := f3_.symm; clear f1_ f2_ f3_; subst f4_; subst f5_))
          refine hK.out _ _ ⟨bc BK549 0, bc BK549 1, bc BK549 2, bc BK545 0, bc BK545 1, bc BK545 2⟩ (fun hHeld => ?_)
          clear hK K
          refine nm ?_
          refine pu 11 38 (ba 13 4095) ?_
          refine last_ (i := 12) (N := none) (ba 13 8191) rfl rfl (one_of HT_.out (by kernel_rfl)) (by decide) (fun K hK => ?_)
          have hs47 : w45.cell? ⟨gb549, 0, none⟩ = some (u550000) := bc BK549 0
          have hfs47 := blk_frozen BK549.out 0
          have hns47_0 := NB545_549.out
          have hns47_1 := NB546_549.out
          have hms47_0 := NB549_545.out
          have hms47_1 := NB549_546.out
          refine skip_ (w1 := ?_) (by rfl) rfl ?_ ?_
          rotate_left
          ·go_simp
           rfl
          refine hK.out _ _ ?_
          clear hK K
          refine done_ (done_of HT_.out (by kernel_rfl)) ?_
          try go_wp2
          go_roundg k2
          case measure => have := HJ3.out; have := HK2.out; omega
          case rel => exact ⟨(wrap64 (x22_2 + 1)), (y552), (x550001_2), (.slice Ao46 y552.length co46), (u550001), rv, H', ⟨by have := HJ3.out; have := HK2.out; omega⟩, (ra (Kd.R_mono (Kd.R_far (p := ⟨gb549, 0, none⟩) (Kd.R_types HO554.out BK549.out (by decide)) (fun _ hk => hk.2) (.slice Ao46 y552.length co46)) (fun _ hk => hk.1))), (ra (Kd.R_mono (Kd.R_far (p := ⟨gb549, 0, none⟩) (Kd.R_types HO_550001.out BK549.out (by decide)) (fun _ hk => hk.2) (.slice Ao46 y552.length co46)) (fun _ hk => hk.1.2))), ⟨by (with_reducible repeat (first | refine blk_drewN ?_ _ | refine blk_drew ?_ | refine blk_alloc ?_ _)); refine blk_far ?_ NB545_549.out _; (with_reducible repeat (first | refine blk_drewN ?_ _ | refine blk_drew ?_ | refine blk_alloc ?_ _)); exact BK545.out⟩, ⟨by (with_reducible repeat (first | refine blk_drewN ?_ _ | refine blk_drew ?_ | refine blk_alloc ?_ _)); refine blk_far ?_ NB546_549.out _; (with_reducible repeat (first | refine blk_drewN ?_ _ | refine blk_drew ?_ | refine blk_alloc ?_ _)); exact BK546.out⟩, ⟨by (with_reducible repeat (first | refine blk_drewN ?_ _ | refine blk_drew ?_ | refine blk_alloc ?_ _)); refine blk_put (cs := #[u550000, u550001, .int .i64 (-1)]) ?_ 0 _ rfl; (with_reducible repeat (first | refine blk_drewN ?_ _ | refine blk_drew ?_ | refine blk_alloc ?_ _)); exact BK549.out⟩, bh HB⟩
        ·rw [if_neg c28] at H
         exact absurd H (by simp)
       ·rw [if_neg c26] at H
        have c26b0 : decide (0 < a2) = false := decide_eq_false c26
        clear c26
        by_cases c48 : a1 > 0
        ·rw [if_pos c48] at H
         have c48b0 : decide (0 < a1) = true := decide_eq_true c48
         clear c48
         replace H := bnd H
         obtain ⟨t559, A49, H⟩ := H
         by_cases c50 : x550001_2.length < 17592186044416
         ·rw [if_pos c50] at H
          have LMc50 := Aside0.mk c50
          clear c50
          obtain ⟨y560, hy560⟩ : ∃ y_ : List Int, y_ = (x550001_2 ++ [t559]) := ⟨_, rfl⟩
          replace H : (impl_EdgesOf.l0 k2 a1 a2 (wrap64 (x22_2 + 1)) a0_0 a0_1 a0_2 x550000_2 y560 (-1)) = some (r1, r2, r3, r4) := by subst hy560; exact H
          have Ny560 := Aside0.mk hy560
          clear hy560
          have H' := Aside0.mk H
          clear H
          try go_wp2
          replace HO_550000 := Aside0.mk (Kd.R_drew HO_550000.out)
          replace HO_550001 := Aside0.mk (Kd.R_drew HO_550001.out)
          replace BK545 := Aside0.mk (blk_drew BK545.out)
          replace BK546 := Aside0.mk (blk_drew BK546.out)
          replace BK549 := Aside0.mk (blk_drew BK549.out)
          replace HB := Aside0.mk (below_drew1 HB.out)
          refine start_ (n := 13) (S := fun w' => w'.cell? ⟨gb549, 0, none⟩ = some (u550000) ∧ w'.cell? ⟨gb549, 1, none⟩ = some (u550001) ∧ w'.cell? ⟨gb549, 2, none⟩ = some (.int .i64 (-1)) ∧ w'.cell? ⟨gb545, 0, none⟩ = some (.int .i64 a0_0) ∧ w'.cell? ⟨gb545, 1, none⟩ = some (.int .i64 a0_1) ∧ w'.cell? ⟨gb545, 2, none⟩ = some (.string a0_2)) (ds := [12]) (ba 13 0) (by kernel_rfl) rfl rfl ⟨bc BK549 0, bc BK549 1, bc BK549 2, bc BK545 0, bc BK545 1, bc BK545 2⟩ (fun hHeld => ?_); refine with_tabW impl_EdgesOf.tab10 impl_EdgesOf.bits10 (fun HT_ HW_ => ?_)
          generalize wr.drew = w51 at HO_550000 HO_550001 BK545 BK546 BK549 HB hHeld ⊢
          refine pu 0 41 (ba 13 1) ?_
          refine pu 3 44 (ba 13 9) ?_
          refine pu 4 45 (ba 13 25) ?_
          refine pu 5 46 (ba 13 57) ?_
          refine pu 6 47 (ba 13 121) ?_
          refine pu 7 48 (ba 13 249) ?_
          refine tk 1 42 (ba 13 251) hHeld ?_
          refine tk 2 43 (ba 13 255) hHeld ?_
          refine on 8 49 (ba 13 511) (fun K hK => ?_)
          refine gS Try.func51 #[.agg #[.int .i64 a0_0, .int .i64 a0_1, .string a0_2], .int .i64 (wrap64 (a1 - 1)), .int .i64 (wrap64 (a2 + x22_2))] ?_
          with_reducible refine (impl_Pic_dot.calls a0_0 a0_1 a0_2 (wrap64 (a1 - 1)) (wrap64 (a2 + x22_2)) t559 _ A49.out).mono ?_
          rintro e w52 ⟨rfl, hb⟩
          refine ⟨_, rfl, ?_⟩
          replace HO_550000 := Aside0.mk (Kd.R_below (ro HO_550000.out) hb)
          replace HO_550001 := Aside0.mk (Kd.R_below (ro HO_550001.out) hb)
          replace BK545 := bb BK545 hb
          replace BK546 := bb BK546 hb
          replace BK549 := bb BK549 hb
          replace HB := bs HB hb
          (try clear hb)
          (try clear hb2)
          (try clear hk)
          (try clear hi)
          refine hK.out _ _ ⟨bc BK549 0, bc BK549 1, bc BK549 2, bc BK545 0, bc BK545 1, bc BK545 2⟩ (fun hHeld => ?_)
          clear hK K
          refine nm ?_
          refine on 9 50 (ba 13 1023) (fun K hK => ?_)
          refine value_ (w1 := ?_) (v := ?_) (by rfl) rfl ?_ ?_
          rotate_left 2
          ·go_simp
           constructor
           ·rfl
           ·rfl
          refine hK.out _ _ ⟨(blk_cell (blk_alloc BK549.out _) 0).trans rfl, (blk_cell (blk_alloc BK549.out _) 1).trans rfl, (blk_cell (blk_alloc BK549.out _) 2).trans rfl, (blk_cell (blk_alloc BK545.out _) 0).trans rfl, (blk_cell (blk_alloc BK545.out _) 1).trans rfl, (blk_cell (blk_alloc BK545.out _) 2).trans rfl⟩ (fun hHeld => ?_)
          clear hK K
          refine nm ?_
          refine on 10 51 (ba 13 2047) (fun K hK => ?_)
          refine Kd.R_append_step (Kd.int .i64) (w0 := w) w.heap.size (by rfl) (.tmp 42) (.tmp 50) 35 3 (.int .i64 0) 8 rfl Try.underlying35 info3 rfl (by decide) (by omega) u550001 x550001_2 t559 [.int .i64 t559] (fun k_ => some k_ ≠ (u550000 : Value).ownBlock) (fun _ => False) rfl rfl ?aP (fun _ hk => hk.elim) ?aF ?aO ?aB ?aS ?aL ?_
          (case aP => exact rfl)
          (case aB => exact (bo HB))
          (case aF => exact (fun k_ hk => Kd.fresh' (Kd.R_lt (ro HO_550000.out)) k_ hk))
          (case aO => exact (ro HO_550001.out))
          (case aS => exact (below_size (bo HB)))
          (case aL => have := LMc50.out; omega)
          intro v561 w53 ho hb hg hat
          rw [← Ny560.out] at ho
          have HO562 := Aside0.mk (ho)
          replace HO_550000 := Aside0.mk (Kd.R_after (ok := (fun _ => True)) (ro (Kd.R_mono HO_550000.out (fun _ hk => ⟨trivial, hk⟩))) hg hat)
          replace BK545 := Aside0.mk (blk_grown (bt BK545) hg (Kd.R_ne HO_550001.out BK545.out (by decide)))
          replace BK546 := Aside0.mk (blk_grown (bt BK546) hg (Kd.R_ne HO_550001.out BK546.out (by decide)))
          replace BK549 := Aside0.mk (blk_grown (bt BK549) hg (Kd.R_ne HO_550001.out BK549.out (by decide)))
          replace HB := Aside0.mk (hb)
          clear HO_550001
          clear ho hb hg hat
          obtain ⟨Ao54, co54, eo54⟩ := Kd.R_slice HO562.out
          (first | subst eo54 | (injection eo54 with f1_ f2_ f3_; have f4_ := f1_.symm; have f5_ := f3_.symm; clear f1_ f2_ f3_; subst f4_; subst f5_))
          refine hK.out _ _ ⟨bc BK549 0, bc BK549 1, bc BK549 2, bc BK545 0, bc BK545 1, bc BK545 2⟩ (fun hHeld => ?_)
          clear hK K
          refine nm ?_
          refine pu 11 52 (ba 13 4095) ?_
          refine last_ (i := 12) (N := none) (ba 13 8191) rfl rfl (one_of HT_.out (by kernel_rfl)) (by decide) (fun K hK => ?_)
          have hs55 : w53.cell? ⟨gb549, 1, none⟩ = some (u550001) := bc BK549 1
          have hfs55 := blk_frozen BK549.out 1
          have hns55_0 := NB545_549.out
          have hns55_1 := NB546_549.out
          have hms55_0 := NB549_545.out
          have hms55_1 := NB549_546.out
          refine skip_ (w1 := ?_) (by rfl) rfl ?_ ?_
          rotate_left
          ·go_simp
           rfl
          refine hK.out _ _ ?_
          clear hK K
          refine done_ (done_of HT_.out (by kernel_rfl)) ?_
          try go_wp2
          go_roundg k2
          case measure => have := HJ3.out; have := HK2.out; omega
          case rel => exact ⟨(wrap64 (x22_2 + 1)), (x550000_2), (y560), (u550000), (.slice Ao54 y560.length co54), rv, H', ⟨by have := HJ3.out; have := HK2.out; omega⟩, (ra (Kd.R_mono (Kd.R_far (p := ⟨gb549, 1, none⟩) (Kd.R_types HO_550000.out BK549.out (by decide)) (fun _ hk => hk.2) (.slice Ao54 y560.length co54)) (fun _ hk => hk.1.2))), (ra (Kd.R_mono (Kd.R_far (p := ⟨gb549, 1, none⟩) (Kd.R_types HO562.out BK549.out (by decide)) (fun _ hk => hk.2) (.slice Ao54 y560.length co54)) (fun _ hk => hk.1))), ⟨by (with_reducible repeat (first | refine blk_drewN ?_ _ | refine blk_drew ?_ | refine blk_alloc ?_ _)); refine blk_far ?_ NB545_549.out _; (with_reducible repeat (first | refine blk_drewN ?_ _ | refine blk_drew ?_ | refine blk_alloc ?_ _)); exact BK545.out⟩, ⟨by (with_reducible repeat (first | refine blk_drewN ?_ _ | refine blk_drew ?_ | refine blk_alloc ?_ _)); refine blk_far ?_ NB546_549.out _; (with_reducible repeat (first | refine blk_drewN ?_ _ | refine blk_drew ?_ | refine blk_alloc ?_ _)); exact BK546.out⟩, ⟨by (with_reducible repeat (first | refine blk_drewN ?_ _ | refine blk_drew ?_ | refine blk_alloc ?_ _)); refine blk_put (cs := #[u550000, u550001, .int .i64 (-1)]) ?_ 1 _ rfl; (with_reducible repeat (first | refine blk_drewN ?_ _ | refine blk_drew ?_ | refine blk_alloc ?_ _)); exact BK549.out⟩, bh HB⟩
         ·rw [if_neg c50] at H
          exact absurd H (by simp)
        ·rw [if_neg c48] at H
         have c48b0 : decide (0 < a1) = false := decide_eq_false c48
         clear c48
         have H' := Aside0.mk H
         clear H
         go_wp2
         go_roundg k2
         case measure => have := HJ3.out; have := HK2.out; omega
         case rel => exact ⟨(wrap64 (x22_2 + 1)), (x550000_2), (x550001_2), (u550000), (u550001), rv, H', ⟨by have := HJ3.out; have := HK2.out; omega⟩, (ra HO_550000.out), (ra HO_550001.out), bk BK545, bk BK546, bk BK549, bh HB⟩
      ·rw [if_neg c25] at H
       have c25b0 := decide_eq_false c25
       clear c25
       by_cases c56 : a1 > 0
       ·rw [if_pos c56] at H
        have c56b0 : decide (0 < a1) = true := decide_eq_true c56
        clear c56
        by_cases c57 : a2 > 0
        ·rw [if_pos c57] at H
         have c57b0 : decide (0 < a2) = true := decide_eq_true c57
         clear c57
         replace H := bnd H
         obtain ⟨t550, A58, H⟩ := H
         simp only [Option.some.injEq, Prod.mk.injEq] at H
         obtain ⟨rfl, rfl, rfl, rfl⟩ := H
         have hnb59 := NB545_546.out
         have hnc59 := NB546_545.out
         have hnb60 := NB545_549.out
         have hnc60 := NB549_545.out
         obtain ⟨hcz61_0, hcz61_1, hcz61_2, hfz61_0, hfz61_1, hfz61_2⟩ := cl3 BK545
         go_wp2_with (first | ((with_reducible refine gate_callee (f := 51) rfl ?_); refine gL (some 65) Try.func51 #[.agg #[.int .i64 a0_0, .int .i64 a0_1, .string a0_2], .int .i64 (wrap64 (a1 - 1)), .int .i64 (wrap64 (a2 - 1))] ?_ (hargs := (by (try simp only [List.map_toArray, List.map_cons, List.map_nil]); first | done | rfl | (rw [show (wrap64 (a1 - 1)) = (a1 - 1) from by unfold wrap64; omega, show (wrap64 (a2 - 1)) = (a2 - 1) from by unfold wrap64; omega]; rfl) | (simp only [List.length_drop, List.length_take]; rfl))); (with_reducible refine (impl_Pic_dot.calls a0_0 a0_1 a0_2 (wrap64 (a1 - 1)) (wrap64 (a2 - 1)) t550 _ A58.out).mono ?_); rintro e w62 ⟨rfl, hb⟩; refine ⟨_, rfl, ?_⟩; replace HO_550000 := Aside0.mk (Kd.R_below (ro HO_550000.out) hb); replace HO_550001 := Aside0.mk (Kd.R_below (ro HO_550001.out) hb); replace BK545 := bb BK545 hb; replace BK546 := bb BK546 hb; replace BK549 := bb BK549 hb; replace HB := bs HB hb; (try clear hb); have hnb63 := NB549_546.out; have hnc63 := NB546_549.out; obtain ⟨hcz64_0, hcz64_1, hcz64_2, hfz64_0, hfz64_1, hfz64_2⟩ := cl3 BK549; obtain ⟨Ao65, co65, eo65⟩ := Kd.R_slice HO_550000.out; subst eo65; obtain ⟨hcz66_0, hcz66_1, hcz66_2, hfz66_0, hfz66_1, hfz66_2⟩ := cl3 BK546; obtain ⟨Ao67, co67, eo67⟩ := Kd.R_slice HO_550001.out; subst eo67))
         refine bodyPost_ret (results_ct rfl _ _ gb546 101 #[.slice Ao65 x550000_2.length co65, .slice Ao67 x550001_2.length co67, .int .i64 t550] (0, 0) _ rfl (by (with_reducible repeat (first | refine blk_drewN ?_ _ | refine blk_drew ?_ | refine blk_alloc ?_ _)); refine blk_put (cs := #[.slice Ao65 x550000_2.length co65, .slice Ao67 x550001_2.length co67, .int .i64 0]) ?_ 2 _ rfl; (with_reducible repeat (first | refine blk_drewN ?_ _ | refine blk_drew ?_ | refine blk_alloc ?_ _)); refine blk_put (cs := #[.slice Ao65 x550000_2.length co65, .slice none 0 0, .int .i64 0]) ?_ 1 _ rfl; (with_reducible repeat (first | refine blk_drewN ?_ _ | refine blk_drew ?_ | refine blk_alloc ?_ _)); refine blk_put (cs := #[.slice none 0 0, .slice none 0 0, .int .i64 0]) ?_ 0 _ rfl; (with_reducible repeat (first | refine blk_drewN ?_ _ | refine blk_drew ?_ | refine blk_alloc ?_ _)); refine blk_far ?_ NB546_549.out _; (with_reducible repeat (first | refine blk_drewN ?_ _ | refine blk_drew ?_ | refine blk_alloc ?_ _)); exact BK546.out) Try.underlying101 rfl (by kernel_rfl)) rfl ?_
         exact ⟨_, _, re, ro (Kd.R_mono (Kd.R_far (p := ⟨gb546, 2, none⟩) (Kd.R_far (p := ⟨gb546, 1, none⟩) (Kd.R_far (p := ⟨gb546, 0, none⟩) (Kd.R_far (p := ⟨gb549, 2, none⟩) (Kd.R_types (Kd.R_types HO_550000.out BK549.out (by decide)) BK546.out (by decide)) (fun _ hk => hk.1.2) (.int .i64 t550)) (fun _ hk => hk.2) (.slice Ao65 x550000_2.length co65)) (fun _ hk => hk.2) (.slice Ao67 x550001_2.length co67)) (fun _ hk => hk.2) (.int .i64 t550)) (fun _ hk => hk.1.1)), ro (Kd.R_mono (Kd.R_far (p := ⟨gb546, 2, none⟩) (Kd.R_far (p := ⟨gb546, 1, none⟩) (Kd.R_far (p := ⟨gb546, 0, none⟩) (Kd.R_far (p := ⟨gb549, 2, none⟩) (Kd.R_types (Kd.R_types HO_550001.out BK549.out (by decide)) BK546.out (by decide)) (fun _ hk => hk.1.2) (.int .i64 t550)) (fun _ hk => hk.2) (.slice Ao65 x550000_2.length co65)) (fun _ hk => hk.2) (.slice Ao67 x550001_2.length co67)) (fun _ hk => hk.2) (.int .i64 t550)) (fun _ hk => hk.1.1)), bo HB⟩
        ·rw [if_neg c57] at H
         have c57b0 : decide (0 < a2) = false := decide_eq_false c57
         clear c57
         simp only [Option.some.injEq, Prod.mk.injEq] at H
         obtain ⟨rfl, rfl, rfl, rfl⟩ := H
         have hnb68 := NB549_545.out
         have hnc68 := NB545_549.out
         have hnb69 := NB549_546.out
         have hnc69 := NB546_549.out
         obtain ⟨hcz70_0, hcz70_1, hcz70_2, hfz70_0, hfz70_1, hfz70_2⟩ := cl3 BK549
         obtain ⟨Ao71, co71, eo71⟩ := Kd.R_slice HO_550000.out
         subst eo71
         have hnb72 := NB546_545.out
         have hnc72 := NB545_546.out
         obtain ⟨hcz73_0, hcz73_1, hcz73_2, hfz73_0, hfz73_1, hfz73_2⟩ := cl3 BK546
         obtain ⟨Ao74, co74, eo74⟩ := Kd.R_slice HO_550001.out
         subst eo74
         go_wp2
         refine bodyPost_ret (results_ct rfl _ _ gb546 101 #[.slice Ao71 x550000_2.length co71, .slice Ao74 x550001_2.length co74, .int .i64 (-1)] (0, 0) _ rfl (by (with_reducible repeat (first | refine blk_drewN ?_ _ | refine blk_drew ?_ | refine blk_alloc ?_ _)); refine blk_put (cs := #[.slice Ao71 x550000_2.length co71, .slice Ao74 x550001_2.length co74, .int .i64 0]) ?_ 2 _ rfl; (with_reducible repeat (first | refine blk_drewN ?_ _ | refine blk_drew ?_ | refine blk_alloc ?_ _)); refine blk_put (cs := #[.slice Ao71 x550000_2.length co71, .slice none 0 0, .int .i64 0]) ?_ 1 _ rfl; (with_reducible repeat (first | refine blk_drewN ?_ _ | refine blk_drew ?_ | refine blk_alloc ?_ _)); refine blk_put (cs := #[.slice none 0 0, .slice none 0 0, .int .i64 0]) ?_ 0 _ rfl; (with_reducible repeat (first | refine blk_drewN ?_ _ | refine blk_drew ?_ | refine blk_alloc ?_ _)); exact BK546.out) Try.underlying101 rfl (by kernel_rfl)) rfl ?_
         exact ⟨_, _, re, ro (Kd.R_mono (Kd.R_far (p := ⟨gb546, 2, none⟩) (Kd.R_far (p := ⟨gb546, 1, none⟩) (Kd.R_far (p := ⟨gb546, 0, none⟩) (Kd.R_types HO_550000.out BK546.out (by decide)) (fun _ hk => hk.2) (.slice Ao71 x550000_2.length co71)) (fun _ hk => hk.2) (.slice Ao74 x550001_2.length co74)) (fun _ hk => hk.2) (.int .i64 (-1))) (fun _ hk => hk.1)), ro (Kd.R_mono (Kd.R_far (p := ⟨gb546, 2, none⟩) (Kd.R_far (p := ⟨gb546, 1, none⟩) (Kd.R_far (p := ⟨gb546, 0, none⟩) (Kd.R_types HO_550001.out BK546.out (by decide)) (fun _ hk => hk.2) (.slice Ao71 x550000_2.length co71)) (fun _ hk => hk.2) (.slice Ao74 x550001_2.length co74)) (fun _ hk => hk.2) (.int .i64 (-1))) (fun _ hk => hk.1)), bo HB⟩
       ·rw [if_neg c56] at H
        have c56b0 : decide (0 < a1) = false := decide_eq_false c56
        clear c56
        simp only [Option.some.injEq, Prod.mk.injEq] at H
        obtain ⟨rfl, rfl, rfl, rfl⟩ := H
        have hnb75 := NB549_545.out
        have hnc75 := NB545_549.out
        have hnb76 := NB549_546.out
        have hnc76 := NB546_549.out
        obtain ⟨hcz77_0, hcz77_1, hcz77_2, hfz77_0, hfz77_1, hfz77_2⟩ := cl3 BK549
        obtain ⟨Ao78, co78, eo78⟩ := Kd.R_slice HO_550000.out
        subst eo78
        have hnb79 := NB546_545.out
        have hnc79 := NB545_546.out
        obtain ⟨hcz80_0, hcz80_1, hcz80_2, hfz80_0, hfz80_1, hfz80_2⟩ := cl3 BK546
        obtain ⟨Ao81, co81, eo81⟩ := Kd.R_slice HO_550001.out
        subst eo81
        go_wp2
        refine bodyPost_ret (results_ct rfl _ _ gb546 101 #[.slice Ao78 x550000_2.length co78, .slice Ao81 x550001_2.length co81, .int .i64 (-1)] (0, 0) _ rfl (by (with_reducible repeat (first | refine blk_drewN ?_ _ | refine blk_drew ?_ | refine blk_alloc ?_ _)); refine blk_put (cs := #[.slice Ao78 x550000_2.length co78, .slice Ao81 x550001_2.length co81, .int .i64 0]) ?_ 2 _ rfl; (with_reducible repeat (first | refine blk_drewN ?_ _ | refine blk_drew ?_ | refine blk_alloc ?_ _)); refine blk_put (cs := #[.slice Ao78 x550000_2.length co78, .slice none 0 0, .int .i64 0]) ?_ 1 _ rfl; (with_reducible repeat (first | refine blk_drewN ?_ _ | refine blk_drew ?_ | refine blk_alloc ?_ _)); refine blk_put (cs := #[.slice none 0 0, .slice none 0 0, .int .i64 0]) ?_ 0 _ rfl; (with_reducible repeat (first | refine blk_drewN ?_ _ | refine blk_drew ?_ | refine blk_alloc ?_ _)); exact BK546.out) Try.underlying101 rfl (by kernel_rfl)) rfl ?_
        exact ⟨_, _, re, ro (Kd.R_mono (Kd.R_far (p := ⟨gb546, 2, none⟩) (Kd.R_far (p := ⟨gb546, 1, none⟩) (Kd.R_far (p := ⟨gb546, 0, none⟩) (Kd.R_types HO_550000.out BK546.out (by decide)) (fun _ hk => hk.2) (.slice Ao78 x550000_2.length co78)) (fun _ hk => hk.2) (.slice Ao81 x550001_2.length co81)) (fun _ hk => hk.2) (.int .i64 (-1))) (fun _ hk => hk.1)), ro (Kd.R_mono (Kd.R_far (p := ⟨gb546, 2, none⟩) (Kd.R_far (p := ⟨gb546, 1, none⟩) (Kd.R_far (p := ⟨gb546, 0, none⟩) (Kd.R_types HO_550001.out BK546.out (by decide)) (fun _ hk => hk.2) (.slice Ao78 x550000_2.length co78)) (fun _ hk => hk.2) (.slice Ao81 x550001_2.length co81)) (fun _ hk => hk.2) (.int .i64 (-1))) (fun _ hk => hk.1)), bo HB⟩

end Go.Proofs.Ytnaccgommclhaaa.QFnExactSquareDots
