/- What the law reaches, as plain functions, each with the proof that its call comes to its answer: written by a program for this claim. -/
import Derived.Test.YtnaccgommclhaaaQFnExactSquareDotsx0
import Derived.Test.YtnaccgommclhaaaQFnExactSquareDotsx1
import Derived.Test.YtnaccgommclhaaaQFnExactSquareDotsx10
import Derived.Test.YtnaccgommclhaaaUFnExactSquareDotsV5
namespace Go.Proofs.Ytnaccgommclhaaa.QFnExactSquareDots
open Go.RowKit Go.Proofs.YtnaccgommclhaaaW.PrintWords Go.Proofs.YtnaccgommclhaaaW.PrintLast Go.Proofs.YtnaccgommclhaaaW.PrintMore Go.Proofs.YtnaccgommclhaaaV
attribute [local go_sem] max2_int min2_int max_two min_two max_three min_three max_four min_four   -- for this text's walks alone
set_option linter.unusedVariables false
set_option linter.unusedSimpArgs false
set_option maxHeartbeats 8000000
set_option maxRecDepth 100000

mutual
def spec_l13Mid.l0 : Nat → Int → Int → Int → List Int → List Int → Int → Option (Int)
 | 0, _, _, _, _, _, _ => none
 | k + 1, x3, x4, x5, x301000, x301001, x301002 => if x5 < (x301000.length : Int) then (if 0 ≤ x5 then (spec_l13Mid.l0 k x3 (wrap64 (x4 + (rd x301000 x5))) (wrap64 (x5 + 1)) x301000 x301001 x301002) else (none)) else (spec_l13Mid.l1 k x3 x4 0 x301000 x301001 x301002)
def spec_l13Mid.l1 : Nat → Int → Int → Int → List Int → List Int → Int → Option (Int)
 | 0, _, _, _, _, _, _ => none
 | k + 1, x3, x4, x6, x301000, x301001, x301002 => if x6 < (x301001.length : Int) then (if 0 ≤ x6 then (spec_l13Mid.l1 k x3 (wrap64 (x4 + (rd x301001 x6))) (wrap64 (x6 + 1)) x301000 x301001 x301002) else (none)) else (if x3 = 0 then (none) else (some (wrap64 (Int.tdiv x4 x3))))
end
def spec_l13Mid.f (k : Nat) (l0_0 : List Int) (l0_1 : List Int) (a0_2 : Int) : Option (Int) := if (wrap64 ((l0_0.length : Int) + (l0_1.length : Int))) = 0 then (some 128) else (spec_l13Mid.l0 k (wrap64 ((l0_0.length : Int) + (l0_1.length : Int))) (wrap64 (Int.tdiv (wrap64 ((l0_0.length : Int) + (l0_1.length : Int))) 2)) 0 l0_0 l0_1 a0_2)
theorem spec_l13Mid.calls (k : Nat) (A0_0 : Option Addr) (c0_0 : Nat) (l0_0 : List Int) (A0_1 : Option Addr) (c0_1 : Nat) (l0_1 : List Int) (a0_2 : Int) (r : Int) (w : World) (hr0_0 : Kd.C (Kd.int .i64) w A0_0 l0_0.length l0_0) (hc0_0 : l0_0.length ≤ c0_0) (hr0_1 : Kd.C (Kd.int .i64) w A0_1 l0_1.length l0_1) (hc0_1 : l0_1.length ≤ c0_1) (h : spec_l13Mid.f k l0_0 l0_1 a0_2 = some r) :
  Calls Try.prog 111 #[.agg #[.slice A0_0 l0_0.length c0_0, .slice A0_1 l0_1.length c0_1, .int .i64 a0_2]] w fun e w' => e = .returned (.int .i64 r) ∧ Below w.heap.size w w' := by
 have hu101 := Try.underlying101
 have HR0_0 := Aside0.mk hr0_0
 have HC0_0 := Aside0.mk hc0_0
 clear hr0_0 hc0_0
 have HR0_1 := Aside0.mk hr0_1
 have HC0_1 := Aside0.mk hc0_1
 clear hr0_1 hc0_1
 have HB := Aside0.mk (Below.refl w.heap.size w)
 have H := h
 clear h
 unfold spec_l13Mid.f at H
 by_cases c2 : (wrap64 ((l0_0.length : Int) + (l0_1.length : Int))) = 0
 ·rw [if_pos c2] at H
  obtain ⟨c2b0, c2b1⟩ := eqt c2
  clear c2
  obtain rfl := Option.some.inj H
  go_enter Try.func111, Try.ntmps111
  go_wp2_with (first | ((with_reducible refine gate_dst (N := 1) rfl ?_); refine bx 1 #[.slice A0_0 l0_0.length c0_0, .slice A0_1 l0_1.length c0_1, .int .i64 a0_2] 101 ?_; intro gb300 hg w3 BK300 hb; have GW300 := ge HB hg; have GE300 := ge HB hg; replace HB := bs HB hb; clear hb hg; obtain ⟨hcz4_0, hcz4_1, hcz4_2, hfz4_0, hfz4_1, hfz4_2⟩ := cl3 BK300))
  go_ret
  exact ⟨re, bo HB⟩
 ·rw [if_neg c2] at H
  obtain ⟨c2b0, c2b1⟩ := eqf c2
  have H' := Aside0.mk H
  clear H
  go_enter Try.func111, Try.ntmps111
  go_wp2_with (first | ((with_reducible refine gate_dst (N := 1) rfl ?_); refine bx 1 #[.slice A0_0 l0_0.length c0_0, .slice A0_1 l0_1.length c0_1, .int .i64 a0_2] 101 ?_; intro gb300 hg w5 BK300 hb; have GW300 := ge HB hg; have GE300 := ge HB hg; replace HB := bs HB hb; clear hb hg; obtain ⟨hcz6_0, hcz6_1, hcz6_2, hfz6_0, hfz6_1, hfz6_2⟩ := cl3 BK300))
  go_loopg [4, 5] k (fun kq v4 v5 w' => ∃ (x4_1 : Int) (x5_1 : Int), v4 = .int .i64 x4_1 ∧ v5 = .int .i64 x5_1 ∧ Aside0 (spec_l13Mid.l0 kq (wrap64 ((l0_0.length : Int) + (l0_1.length : Int))) x4_1 x5_1 l0_0 l0_1 a0_2 = some r) ∧ Aside0 (kq ≤ k) ∧ Aside0 (w'.heap[gb300]? = some (.cells #[(.slice A0_0 l0_0.length c0_0), (.slice A0_1 l0_1.length c0_1), .int .i64 a0_2] 101 (0, 0))) ∧ Aside0 (Below w.heap.size w w'))
  case atStart => exact ⟨(wrap64 (Int.tdiv (wrap64 ((l0_0.length : Int) + (l0_1.length : Int))) 2)), (0), rv, rv, H', ⟨Nat.le_refl _⟩, bk BK300, bh HB⟩
  case round =>
   clear H'
   try clear hcz4_0 hcz4_1 hcz4_2 hfz4_0 hfz4_1 hfz4_2
   try clear hcz6_0 hcz6_1 hcz6_2 hfz6_0 hfz6_1 hfz6_2
   obtain ⟨x4_1, x5_1, rfl, rfl, HA, HK1, BK300, HB⟩ := hrel
   cases gk with
   | zero => exact absurd HA.out (by simp [spec_l13Mid.l0])
   | succ k1 =>
    have H := HA.out
    clear HA
    simp only [spec_l13Mid.l0] at H
    by_cases c7 : x5_1 < (l0_0.length : Int)
    ·rw [if_pos c7] at H
     have c7b0 := decide_eq_true c7
     clear c7
     by_cases c8 : 0 ≤ x5_1
     ·rw [if_pos c8] at H
      have c8b0 := decide_eq_true c8
      clear c8
      have H' := Aside0.mk H
      clear H
      obtain ⟨hcz9_0, hcz9_1, hcz9_2, hfz9_0, hfz9_1, hfz9_2⟩ := cl3 BK300
      have p301 : 0 ≤ (x5_1 : Int) := od
      have q301 : x5_1 < (l0_0.length : Int) := od
      obtain ⟨ad301, e301, hx301_0⟩ := Kd.at_int HR0_0.out x5_1 p301 q301
      cases e301
      replace hx301_0 := (HB.out.cell (World.block_lt_of_cell? w _ hx301_0)).trans hx301_0
      replace p301 := eq_true p301
      replace q301 := eq_true q301
      go_wp2
      go_roundg k1
      case measure => have := HK1.out; omega
      case rel => exact ⟨(wrap64 (x4_1 + (rd l0_0 x5_1))), (wrap64 (x5_1 + 1)), rv, rv, H', ⟨by have := HK1.out; omega⟩, bk BK300, bh HB⟩
     ·rw [if_neg c8] at H
      exact absurd H (by simp)
    ·rw [if_neg c7] at H
     have c7b0 := decide_eq_false c7
     clear c7
     have H' := Aside0.mk H
     clear H
     obtain ⟨hcz10_0, hcz10_1, hcz10_2, hfz10_0, hfz10_1, hfz10_2⟩ := cl3 BK300
     go_wp2
     go_loopg [4, 6] k1 (fun kq v4 v6 w' => ∃ (x4_2 : Int) (x6_2 : Int), v4 = .int .i64 x4_2 ∧ v6 = .int .i64 x6_2 ∧ Aside0 (spec_l13Mid.l1 kq (wrap64 ((l0_0.length : Int) + (l0_1.length : Int))) x4_2 x6_2 l0_0 l0_1 a0_2 = some r) ∧ Aside0 (kq ≤ k1) ∧ Aside0 (w'.heap[gb300]? = some (.cells #[(.slice A0_0 l0_0.length c0_0), (.slice A0_1 l0_1.length c0_1), .int .i64 a0_2] 101 (0, 0))) ∧ Aside0 (Below w.heap.size w w'))
     case atStart => exact ⟨(x4_1), (0), rv, rv, H', ⟨Nat.le_refl _⟩, bk BK300, bh HB⟩
     case round =>
      clear H'
      try clear q3
      try clear hx3
      try clear hcz10_0 hcz10_1 hcz10_2 hfz10_0 hfz10_1 hfz10_2
      try clear hcz4_0 hcz4_1 hcz4_2 hfz4_0 hfz4_1 hfz4_2
      try clear hcz6_0 hcz6_1 hcz6_2 hfz6_0 hfz6_1 hfz6_2
      try clear hcz9_0 hcz9_1 hcz9_2 hfz9_0 hfz9_1 hfz9_2
      try clear hx301_0
      try clear q301
      obtain ⟨x4_2, x6_2, rfl, rfl, HA, HK2, BK300, HB⟩ := hrel
      cases gk with
      | zero => exact absurd HA.out (by simp [spec_l13Mid.l1])
      | succ k2 =>
       have H := HA.out
       clear HA
       simp only [spec_l13Mid.l1] at H
       by_cases c11 : x6_2 < (l0_1.length : Int)
       ·rw [if_pos c11] at H
        have c11b0 := decide_eq_true c11
        clear c11
        by_cases c12 : 0 ≤ x6_2
        ·rw [if_pos c12] at H
         have c12b0 := decide_eq_true c12
         clear c12
         have H' := Aside0.mk H
         clear H
         obtain ⟨hcz13_0, hcz13_1, hcz13_2, hfz13_0, hfz13_1, hfz13_2⟩ := cl3 BK300
         have p302 : 0 ≤ (x6_2 : Int) := od
         have q302 : x6_2 < (l0_1.length : Int) := od
         obtain ⟨ad302, e302, hx302_0⟩ := Kd.at_int HR0_1.out x6_2 p302 q302
         cases e302
         replace hx302_0 := (HB.out.cell (World.block_lt_of_cell? w _ hx302_0)).trans hx302_0
         replace p302 := eq_true p302
         replace q302 := eq_true q302
         go_wp2
         go_roundg k2
         case measure => have := HK1.out; have := HK2.out; omega
         case rel => exact ⟨(wrap64 (x4_2 + (rd l0_1 x6_2))), (wrap64 (x6_2 + 1)), rv, rv, H', ⟨by have := HK1.out; have := HK2.out; omega⟩, bk BK300, bh HB⟩
        ·rw [if_neg c12] at H
         exact absurd H (by simp)
       ·rw [if_neg c11] at H
        have c11b0 := decide_eq_false c11
        clear c11
        by_cases c14 : (wrap64 ((l0_0.length : Int) + (l0_1.length : Int))) = 0
        ·rw [if_pos c14] at H
         exact absurd H (by simp)
        ·rw [if_neg c14] at H
         obtain ⟨c14b0, c14b1⟩ := eqf c14
         obtain rfl := Option.some.inj H
         obtain ⟨hcz15_0, hcz15_1, hcz15_2, hfz15_0, hfz15_1, hfz15_2⟩ := cl3 BK300
         go_wp2
         go_ret
         exact ⟨re, bo HB⟩

mutual
def spec_GuessOf.j0 : Nat → Int → List Int → Bool → List Int → List Int → Int → Option (List Int)
 | 0, _, _, _, _, _, _ => none
 | k + 1, x0, x5, x18, x304000, x304001, x304002 => if x18 = true then (some x5) else (if x304002 < 0 then (spec_GuessOf.j1 k x0 x5 128 x304000 x304001 x304002) else (spec_GuessOf.j1 k x0 x5 x304002 x304000 x304001 x304002))
def spec_GuessOf.j1 : Nat → Int → List Int → Int → List Int → List Int → Int → Option (List Int)
 | 0, _, _, _, _, _, _ => none
 | k + 1, x0, x5, x6, x304000, x304001, x304002 => spec_GuessOf.l0 k x0 x5 x6 0 x304000 x304001 x304002
def spec_GuessOf.l0 : Nat → Int → List Int → Int → Int → List Int → List Int → Int → Option (List Int)
 | 0, _, _, _, _, _, _, _ => none
 | k + 1, x0, x5, x6, x7, x304000, x304001, x304002 => if x7 < 64 then ((spec_l13Filled.f x304000 (Int.tmod x7 8)).bind fun t309 => ((spec_l13Filled.f x304001 (wrap64 (Int.tdiv x7 8))).bind fun t310 => (if x0 = 0 then ((spec_l13Mid.f k x304000 x304001 x304002).bind fun t311 => (if x5.length < 17592186044416 then (spec_GuessOf.l0 k x0 (x5 ++ [t311]) x6 (wrap64 (x7 + 1)) x304000 x304001 x304002) else (none))) else (if x0 = 1 then (if x5.length < 17592186044416 then (spec_GuessOf.l0 k x0 (x5 ++ [t309]) x6 (wrap64 (x7 + 1)) x304000 x304001 x304002) else (none)) else (if x0 = 2 then (if x5.length < 17592186044416 then (spec_GuessOf.l0 k x0 (x5 ++ [t310]) x6 (wrap64 (x7 + 1)) x304000 x304001 x304002) else (none)) else ((spec_Brought.f k (wrap64 ((wrap64 (t310 + t309)) - x6)) 0 255).bind fun t321 => (if x5.length < 17592186044416 then (spec_GuessOf.l0 k x0 (x5 ++ [t321]) x6 (wrap64 (x7 + 1)) x304000 x304001 x304002) else (none)))))))) else (some x5)
end
def spec_GuessOf.f (k : Nat) (a0 : Int) (l1_0 : List Int) (l1_1 : List Int) (a1_2 : Int) : Option (List Int) := (some (([] : List Int) : List Int)).bind fun y304 => ((spec_EdgesOk.f k l1_0 l1_1 a1_2).bind fun t307 => (if t307 = true then ((spec_l01In.f a0 0 3).bind fun t308 => (spec_GuessOf.j0 k a0 y304 (!t308) l1_0 l1_1 a1_2)) else (spec_GuessOf.j0 k a0 y304 true l1_0 l1_1 a1_2)))
theorem spec_GuessOf.calls (k : Nat) (a0 : Int) (A1_0 : Option Addr) (c1_0 : Nat) (l1_0 : List Int) (A1_1 : Option Addr) (c1_1 : Nat) (l1_1 : List Int) (a1_2 : Int) (r : List Int) (w : World) (hr1_0 : Kd.C (Kd.int .i64) w A1_0 l1_0.length l1_0) (hc1_0 : l1_0.length ≤ c1_0) (hr1_1 : Kd.C (Kd.int .i64) w A1_1 l1_1.length l1_1) (hc1_1 : l1_1.length ≤ c1_1) (h : spec_GuessOf.f k a0 l1_0 l1_1 a1_2 = some r) :
  Calls Try.prog 70 #[.int .i64 a0, .agg #[.slice A1_0 l1_0.length c1_0, .slice A1_1 l1_1.length c1_1, .int .i64 a1_2]] w fun e w' => ∃ v0_ : Value, e = .returned (v0_) ∧ Kd.R (Kd.int .i64) 3 w' w.heap.size (fun _ => True) v0_ r ∧ Below w.heap.size w w' := by
 have hu101 := Try.underlying101
 have HR1_0 := Aside0.mk hr1_0
 have HC1_0 := Aside0.mk hc1_0
 clear hr1_0 hc1_0
 have HR1_1 := Aside0.mk hr1_1
 have HC1_1 := Aside0.mk hc1_1
 clear hr1_1 hc1_1
 have HB := Aside0.mk (Below.refl w.heap.size w)
 have H := h
 clear h
 unfold spec_GuessOf.f at H
 replace H := yl H
 obtain ⟨y304, Ny304, H⟩ := H
 have HC3 := Aside0.mk H
 clear H
 go_enter Try.func70, Try.ntmps70
 go_upto_region 2 with (first | ((with_reducible refine gate_dst (N := 3) rfl ?_); refine bx 3 #[.slice A1_0 l1_0.length c1_0, .slice A1_1 l1_1.length c1_1, .int .i64 a1_2] 101 ?_; intro gb303 hg w4 BK303 hb; have GW303 := ge HB hg; have GE303 := ge HB hg; replace HB := bs HB hb; clear hb hg) | ((with_reducible refine gate_dst (N := 10) rfl ?_); refine Kd.R_lit (Kd.int .i64) _ 3 ?hg (N := 10) ?hd (xs := ([] : List Int)) (inner := []) (ok := fun _ => True) (okp := fun _ => True) ?hr ?hp (fun _ hk => hk) trivial (Below.refl _ _) (Nat.le_refl _) (by simp) ?_; (case hd => rfl); (case hg => rfl); (case hr => first | (go_simp; done) | (go_simp; rfl)); (case hp => exact (Reps.none _ _)); intro v305 w5 ho6 hb hg_ hnew_; clear hg_ hnew_; (first | rw [← Ny304.out] at ho6 | (simp only [Int.reduceToNat] at ho6; rw [← Ny304.out] at ho6)); have HO306 := Aside0.mk (Kd.R_lower ho6 (below_size (bo HB))); replace BK303 := bb BK303 hb; replace HB := bs HB hb; clear hb ho6))
 (try simp only [Act.put, List.setIfInBounds_toArray, List.set_cons_zero, List.set_cons_succ])
 go_cut [18] (fun v18 wc => ∃ (kq : Nat) (x18_2 : Bool), v18 = .bool x18_2 ∧ Aside0 (spec_GuessOf.j0 kq a0 y304 x18_2 l1_0 l1_1 a1_2 = some r) ∧ Aside0 (kq ≤ k) ∧ Aside0 (Kd.R (Kd.int .i64) 3 wc w.heap.size (fun _ => True) v305 y304) ∧ Aside0 (wc.heap[gb303]? = some (.cells #[(.slice A1_0 l1_0.length c1_0), (.slice A1_1 l1_1.length c1_1), .int .i64 a1_2] 101 (0, 0))) ∧ Aside0 (Below w.heap.size w wc))
 case first =>
  have H := HC3.out
  clear HC3
  replace H := bnd H
  obtain ⟨t307, A7, H⟩ := H
  by_cases c8 : t307 = true
  ·subst c8
   rw [if_pos rfl] at H
   replace H := bnd H
   obtain ⟨t308, A9, H⟩ := H
   have H' := Aside0.mk H
   clear H
   obtain ⟨hcz10_0, hcz10_1, hcz10_2, hfz10_0, hfz10_1, hfz10_2⟩ := cl3 BK303
   go_wp2_with (first | ((with_reducible refine gate_callee (f := 109) rfl ?_); refine gL (some 12) Try.func109 #[.agg #[.slice A1_0 l1_0.length c1_0, .slice A1_1 l1_1.length c1_1, .int .i64 a1_2]] ?_; (with_reducible refine (spec_EdgesOk.calls k _ _ l1_0 _ _ l1_1 a1_2 true _ ?side1 ?side2 ?side3 ?side4 A7.out).mono ?_); (case side1 => exact ca (Kd.C_below HR1_0.out HB.out)); (case side2 => exact HC1_0.out); (case side3 => exact ca (Kd.C_below HR1_1.out HB.out)); (case side4 => exact HC1_1.out); rintro e w11 ⟨rfl, hb⟩; refine ⟨_, rfl, ?_⟩; replace HO306 := Aside0.mk (Kd.R_below (ro HO306.out) hb); replace BK303 := bb BK303 hb; replace HB := bs HB hb; (try clear hb)) | (go_at_call 58; (with_reducible refine (spec_l01In.calls a0 0 3 t308 _ A9.out).mono ?_); rintro e w' ⟨rfl, ⟨nd, rfl⟩⟩))
   go_meet
   case rel => exact ⟨_, (!t308), rv, H', om, (ra HO306.out), bk BK303, bh HB⟩
  ·replace c8 := Bool.eq_false_iff.mpr c8
   subst c8
   rw [if_neg nft] at H
   have H' := Aside0.mk H
   clear H
   obtain ⟨hcz12_0, hcz12_1, hcz12_2, hfz12_0, hfz12_1, hfz12_2⟩ := cl3 BK303
   go_wp2_with (first | ((with_reducible refine gate_callee (f := 109) rfl ?_); refine gL (some 12) Try.func109 #[.agg #[.slice A1_0 l1_0.length c1_0, .slice A1_1 l1_1.length c1_1, .int .i64 a1_2]] ?_; (with_reducible refine (spec_EdgesOk.calls k _ _ l1_0 _ _ l1_1 a1_2 false _ ?side1 ?side2 ?side3 ?side4 A7.out).mono ?_); (case side1 => exact ca (Kd.C_below HR1_0.out HB.out)); (case side2 => exact HC1_0.out); (case side3 => exact ca (Kd.C_below HR1_1.out HB.out)); (case side4 => exact HC1_1.out); rintro e w13 ⟨rfl, hb⟩; refine ⟨_, rfl, ?_⟩; replace HO306 := Aside0.mk (Kd.R_below (ro HO306.out) hb); replace BK303 := bb BK303 hb; replace HB := bs HB hb; (try clear hb)))
   go_meet
   case rel => exact ⟨_, (true), rv, H', om, (ra HO306.out), bk BK303, bh HB⟩
 case rest =>
  clear HC3
  try clear hcz10_0 hcz10_1 hcz10_2 hfz10_0 hfz10_1 hfz10_2
  try clear hcz12_0 hcz12_1 hcz12_2 hfz12_0 hfz12_1 hfz12_2
  obtain ⟨kq, x18_2, rfl, HA, HJ2, HO_5, BK303, HB⟩ := hcut
  cases kq with
  | zero => exact absurd HA.out (by simp [spec_GuessOf.j0])
  | succ kj2 =>
   have H := HA.out
   clear HA
   simp only [spec_GuessOf.j0] at H
   by_cases c14 : x18_2 = true
   ·subst c14
    rw [if_pos rfl] at H
    obtain rfl := Option.some.inj H
    go_wp2
    go_ret
    exact ⟨_, re, ro HO_5.out, bo HB⟩
   ·replace c14 := Bool.eq_false_iff.mpr c14
    subst c14
    rw [if_neg nft] at H
    have HC15 := Aside0.mk H
    clear H
    obtain ⟨hcz16_0, hcz16_1, hcz16_2, hfz16_0, hfz16_1, hfz16_2⟩ := cl3 BK303
    go_upto_if 23 with (fail)
    go_cut [6] (fun v6 wc => ∃ (kq : Nat) (x6_14 : Int), v6 = .int .i64 x6_14 ∧ Aside0 (spec_GuessOf.j1 kq a0 y304 x6_14 l1_0 l1_1 a1_2 = some r) ∧ Aside0 (kq ≤ kj2) ∧ Aside0 (Kd.R (Kd.int .i64) 3 wc w.heap.size (fun _ => True) v305 y304) ∧ Aside0 (wc.heap[gb303]? = some (.cells #[(.slice A1_0 l1_0.length c1_0), (.slice A1_1 l1_1.length c1_1), .int .i64 a1_2] 101 (0, 0))) ∧ Aside0 (Below w.heap.size w wc))
    case first =>
     have H := HC15.out
     clear HC15
     by_cases c17 : a1_2 < 0
     ·rw [if_pos c17] at H
      have c17b0 := decide_eq_true c17
      clear c17
      (first | rw [c17b0] | (simp only [i64_w, i32_w]; rw [c17b0]) | skip)
      have H' := Aside0.mk H
      clear H
      go_wp2
      go_meet
      case rel => exact ⟨_, (128), rv, H', (om1 HJ2.out), (ra HO_5.out), bk BK303, bh HB⟩
     ·rw [if_neg c17] at H
      have c17b0 := decide_eq_false c17
      clear c17
      (first | rw [c17b0] | (simp only [i64_w, i32_w]; rw [c17b0]) | skip)
      have H' := Aside0.mk H
      clear H
      go_wp2
      go_meet
      case rel => exact ⟨_, (a1_2), rv, H', (om1 HJ2.out), (ra HO_5.out), bk BK303, bh HB⟩
    case rest =>
     clear HC15
     try clear hcz10_0 hcz10_1 hcz10_2 hfz10_0 hfz10_1 hfz10_2
     try clear hcz12_0 hcz12_1 hcz12_2 hfz12_0 hfz12_1 hfz12_2
     try clear hcz16_0 hcz16_1 hcz16_2 hfz16_0 hfz16_1 hfz16_2
     obtain ⟨kq, x6_14, rfl, HA, HJ14, HO_5, BK303, HB⟩ := hcut
     cases kq with
     | zero => exact absurd HA.out (by simp [spec_GuessOf.j1])
     | succ kj14 =>
      have H := HA.out
      clear HA
      simp only [spec_GuessOf.j1] at H
      have H' := Aside0.mk H
      clear H
      go_wp2
      go_loopg [5, 7] kj14 (fun kq v5 v7 w' => ∃ (x5_3 : List Int) (x7_3 : Int), v7 = .int .i64 x7_3 ∧ Aside0 (spec_GuessOf.l0 kq a0 x5_3 x6_14 x7_3 l1_0 l1_1 a1_2 = some r) ∧ Aside0 (kq ≤ kj14) ∧ Aside0 (Kd.R (Kd.int .i64) 3 w' w.heap.size (fun _ => True) v5 x5_3) ∧ Aside0 (w'.heap[gb303]? = some (.cells #[(.slice A1_0 l1_0.length c1_0), (.slice A1_1 l1_1.length c1_1), .int .i64 a1_2] 101 (0, 0))) ∧ Aside0 (Below w.heap.size w w'))
      case atStart => exact ⟨(y304), (0), rv, H', ⟨Nat.le_refl _⟩, (ra HO_5.out), bk BK303, bh HB⟩
      case round =>
       clear H'
       try clear hcz10_0 hcz10_1 hcz10_2 hfz10_0 hfz10_1 hfz10_2
       try clear hcz12_0 hcz12_1 hcz12_2 hfz12_0 hfz12_1 hfz12_2
       try clear hcz16_0 hcz16_1 hcz16_2 hfz16_0 hfz16_1 hfz16_2
       obtain ⟨x5_3, x7_3, rfl, HA, HK3, HO_5, BK303, HB⟩ := hrel
       cases gk with
       | zero => exact absurd HA.out (by simp [spec_GuessOf.l0])
       | succ k3 =>
        have H := HA.out
        clear HA
        simp only [spec_GuessOf.l0] at H
        by_cases c18 : x7_3 < 64
        ·rw [if_pos c18] at H
         have c18b0 := decide_eq_true c18
         clear c18
         replace H := bnd H
         obtain ⟨t309, A19, H⟩ := H
         replace H := bnd H
         obtain ⟨t310, A20, H⟩ := H
         by_cases c21 : a0 = 0
         ·rw [if_pos c21] at H
          obtain ⟨c21b0, c21b1⟩ := eqt c21
          clear c21
          replace H := bnd H
          obtain ⟨t311, A22, H⟩ := H
          by_cases c23 : x5_3.length < 17592186044416
          ·rw [if_pos c23] at H
           have LMc23 := Aside0.mk c23
           clear c23
           obtain ⟨y312, hy312⟩ : ∃ y_ : List Int, y_ = (x5_3 ++ [t311]) := ⟨_, rfl⟩
           replace H : (spec_GuessOf.l0 k3 a0 y312 x6_14 (wrap64 (x7_3 + 1)) l1_0 l1_1 a1_2) = some r := by subst hy312; exact H
           have Ny312 := Aside0.mk hy312
           clear hy312
           have H' := Aside0.mk H
           clear H
           obtain ⟨hcz24_0, hcz24_1, hcz24_2, hfz24_0, hfz24_1, hfz24_2⟩ := cl3 BK303
           go_wp2_with (first | ((with_reducible refine gate_callee (f := 110) rfl ?_); refine gD (some 32) Try.func110 #[.slice A1_0 l1_0.length c1_0, .int .i64 (Int.tmod x7_3 8)] (spec_l13Filled.calls _ _ l1_0 (Int.tmod x7_3 8) t309 _ ?side1 ?side2 A19.out) ?_; (case side1 => exact ca (Kd.C_below HR1_0.out HB.out)); (case side2 => exact HC1_0.out); intro nd) | ((with_reducible refine gate_callee (f := 110) rfl ?_); refine gD (some 37) Try.func110 #[.slice A1_1 l1_1.length c1_1, .int .i64 (wrap64 (Int.tdiv x7_3 8))] (spec_l13Filled.calls _ _ l1_1 (wrap64 (Int.tdiv x7_3 8)) t310 _ ?side1 ?side2 A20.out) ?_ (hargs := (by (try simp only [List.map_toArray, List.map_cons, List.map_nil]); first | done | rfl | (rw [show (wrap64 (Int.tdiv x7_3 8)) = (Int.tdiv x7_3 8) from by unfold wrap64; omega]; rfl) | (simp only [List.length_drop, List.length_take]; rfl))); (case side1 => exact ca (Kd.C_below HR1_1.out (bo HB))); (case side2 => exact HC1_1.out); intro nd) | ((with_reducible refine gate_callee (f := 111) rfl ?_); refine gL (some 52) Try.func111 #[.agg #[.slice A1_0 l1_0.length c1_0, .slice A1_1 l1_1.length c1_1, .int .i64 a1_2]] ?_; (with_reducible refine (spec_l13Mid.calls k3 _ _ l1_0 _ _ l1_1 a1_2 t311 _ ?side1 ?side2 ?side3 ?side4 A22.out).mono ?_); (case side1 => exact ca (Kd.C_below HR1_0.out (bo HB))); (case side2 => exact HC1_0.out); (case side3 => exact ca (Kd.C_below HR1_1.out (bo HB))); (case side4 => exact HC1_1.out); rintro e w25 ⟨rfl, hb⟩; refine ⟨_, rfl, ?_⟩; replace HO_5 := Aside0.mk (Kd.R_below (ro HO_5.out) hb); replace BK303 := bb BK303 hb; replace HB := bs HB hb; (try clear hb)) | ((with_reducible refine gate_builtin (b := .append) (xs := #[.tmp 50, .tmp 53]) rfl ?_); at_builtin; refine Kd.R_append (Kd.int .i64) (w0 := w) w.heap.size rfl (.tmp 50) (.tmp 53) 35 3 (.int .i64 0) 8 rfl Try.underlying35 info3 rfl (by decide) (by omega) u5 x5_3 t311 [.int .i64 t311] (fun _ => True) (fun _ => False) rfl rfl ?aP (fun _ hk => hk.elim) ?aF ?aO ?aB ?aS ?aL ?_; (case aP => exact rfl); (case aB => exact (bo HB)); (case aF => exact (fun _ _ => trivial)); (case aO => exact (ro HO_5.out)); (case aS => exact (below_size (bo HB))); (case aL => have := LMc23.out; omega); intro v313 w26 ho hb hg hat; rw [← Ny312.out] at ho; have HO314 := Aside0.mk (ho); replace BK303 := Aside0.mk (blk_grown (bt BK303) hg (Kd.R_ne HO_5.out BK303.out (by decide))); replace HB := Aside0.mk (hb); clear HO_5; clear ho hb hg hat))
           go_roundg k3
           case measure => have := HJ2.out; have := HJ14.out; have := HK3.out; omega
           case rel => exact ⟨(y312), (wrap64 (x7_3 + 1)), rv, H', ⟨by have := HJ2.out; have := HJ14.out; have := HK3.out; omega⟩, (ra HO314.out), bk BK303, bh HB⟩
          ·rw [if_neg c23] at H
           exact absurd H (by simp)
         ·rw [if_neg c21] at H
          obtain ⟨c21b0, c21b1⟩ := eqf c21
          by_cases c27 : a0 = 1
          ·rw [if_pos c27] at H
           obtain ⟨c27b0, c27b1⟩ := eqt c27
           clear c27
           by_cases c28 : x5_3.length < 17592186044416
           ·rw [if_pos c28] at H
            have LMc28 := Aside0.mk c28
            clear c28
            obtain ⟨y315, hy315⟩ : ∃ y_ : List Int, y_ = (x5_3 ++ [t309]) := ⟨_, rfl⟩
            replace H : (spec_GuessOf.l0 k3 a0 y315 x6_14 (wrap64 (x7_3 + 1)) l1_0 l1_1 a1_2) = some r := by subst hy315; exact H
            have Ny315 := Aside0.mk hy315
            clear hy315
            have H' := Aside0.mk H
            clear H
            obtain ⟨hcz29_0, hcz29_1, hcz29_2, hfz29_0, hfz29_1, hfz29_2⟩ := cl3 BK303
            go_wp2_with (first | ((with_reducible refine gate_callee (f := 110) rfl ?_); refine gD (some 32) Try.func110 #[.slice A1_0 l1_0.length c1_0, .int .i64 (Int.tmod x7_3 8)] (spec_l13Filled.calls _ _ l1_0 (Int.tmod x7_3 8) t309 _ ?side1 ?side2 A19.out) ?_; (case side1 => exact ca (Kd.C_below HR1_0.out HB.out)); (case side2 => exact HC1_0.out); intro nd) | ((with_reducible refine gate_callee (f := 110) rfl ?_); refine gD (some 37) Try.func110 #[.slice A1_1 l1_1.length c1_1, .int .i64 (wrap64 (Int.tdiv x7_3 8))] (spec_l13Filled.calls _ _ l1_1 (wrap64 (Int.tdiv x7_3 8)) t310 _ ?side1 ?side2 A20.out) ?_ (hargs := (by (try simp only [List.map_toArray, List.map_cons, List.map_nil]); first | done | rfl | (rw [show (wrap64 (Int.tdiv x7_3 8)) = (Int.tdiv x7_3 8) from by unfold wrap64; omega]; rfl) | (simp only [List.length_drop, List.length_take]; rfl))); (case side1 => exact ca (Kd.C_below HR1_1.out (bo HB))); (case side2 => exact HC1_1.out); intro nd) | ((with_reducible refine gate_builtin (b := .append) (xs := #[.tmp 57, .tmp 59]) rfl ?_); at_builtin; refine Kd.R_append (Kd.int .i64) (w0 := w) w.heap.size rfl (.tmp 57) (.tmp 59) 35 3 (.int .i64 0) 8 rfl Try.underlying35 info3 rfl (by decide) (by omega) u5 x5_3 t309 [.int .i64 t309] (fun _ => True) (fun _ => False) rfl rfl ?aP (fun _ hk => hk.elim) ?aF ?aO ?aB ?aS ?aL ?_; (case aP => exact rfl); (case aB => exact (bo HB)); (case aF => exact (fun _ _ => trivial)); (case aO => exact (ro HO_5.out)); (case aS => exact (below_size (bo HB))); (case aL => have := LMc28.out; omega); intro v316 w30 ho hb hg hat; rw [← Ny315.out] at ho; have HO317 := Aside0.mk (ho); replace BK303 := Aside0.mk (blk_grown (bt BK303) hg (Kd.R_ne HO_5.out BK303.out (by decide))); replace HB := Aside0.mk (hb); clear HO_5; clear ho hb hg hat))
            go_roundg k3
            case measure => have := HJ2.out; have := HJ14.out; have := HK3.out; omega
            case rel => exact ⟨(y315), (wrap64 (x7_3 + 1)), rv, H', ⟨by have := HJ2.out; have := HJ14.out; have := HK3.out; omega⟩, (ra HO317.out), bk BK303, bh HB⟩
           ·rw [if_neg c28] at H
            exact absurd H (by simp)
          ·rw [if_neg c27] at H
           obtain ⟨c27b0, c27b1⟩ := eqf c27
           by_cases c31 : a0 = 2
           ·rw [if_pos c31] at H
            obtain ⟨c31b0, c31b1⟩ := eqt c31
            clear c31
            by_cases c32 : x5_3.length < 17592186044416
            ·rw [if_pos c32] at H
             have LMc32 := Aside0.mk c32
             clear c32
             obtain ⟨y318, hy318⟩ : ∃ y_ : List Int, y_ = (x5_3 ++ [t310]) := ⟨_, rfl⟩
             replace H : (spec_GuessOf.l0 k3 a0 y318 x6_14 (wrap64 (x7_3 + 1)) l1_0 l1_1 a1_2) = some r := by subst hy318; exact H
             have Ny318 := Aside0.mk hy318
             clear hy318
             have H' := Aside0.mk H
             clear H
             obtain ⟨hcz33_0, hcz33_1, hcz33_2, hfz33_0, hfz33_1, hfz33_2⟩ := cl3 BK303
             go_wp2_with (first | ((with_reducible refine gate_callee (f := 110) rfl ?_); refine gD (some 32) Try.func110 #[.slice A1_0 l1_0.length c1_0, .int .i64 (Int.tmod x7_3 8)] (spec_l13Filled.calls _ _ l1_0 (Int.tmod x7_3 8) t309 _ ?side1 ?side2 A19.out) ?_; (case side1 => exact ca (Kd.C_below HR1_0.out HB.out)); (case side2 => exact HC1_0.out); intro nd) | ((with_reducible refine gate_callee (f := 110) rfl ?_); refine gD (some 37) Try.func110 #[.slice A1_1 l1_1.length c1_1, .int .i64 (wrap64 (Int.tdiv x7_3 8))] (spec_l13Filled.calls _ _ l1_1 (wrap64 (Int.tdiv x7_3 8)) t310 _ ?side1 ?side2 A20.out) ?_ (hargs := (by (try simp only [List.map_toArray, List.map_cons, List.map_nil]); first | done | rfl | (rw [show (wrap64 (Int.tdiv x7_3 8)) = (Int.tdiv x7_3 8) from by unfold wrap64; omega]; rfl) | (simp only [List.length_drop, List.length_take]; rfl))); (case side1 => exact ca (Kd.C_below HR1_1.out (bo HB))); (case side2 => exact HC1_1.out); intro nd) | ((with_reducible refine gate_builtin (b := .append) (xs := #[.tmp 63, .tmp 65]) rfl ?_); at_builtin; refine Kd.R_append (Kd.int .i64) (w0 := w) w.heap.size rfl (.tmp 63) (.tmp 65) 35 3 (.int .i64 0) 8 rfl Try.underlying35 info3 rfl (by decide) (by omega) u5 x5_3 t310 [.int .i64 t310] (fun _ => True) (fun _ => False) rfl rfl ?aP (fun _ hk => hk.elim) ?aF ?aO ?aB ?aS ?aL ?_; (case aP => exact rfl); (case aB => exact (bo HB)); (case aF => exact (fun _ _ => trivial)); (case aO => exact (ro HO_5.out)); (case aS => exact (below_size (bo HB))); (case aL => have := LMc32.out; omega); intro v319 w34 ho hb hg hat; rw [← Ny318.out] at ho; have HO320 := Aside0.mk (ho); replace BK303 := Aside0.mk (blk_grown (bt BK303) hg (Kd.R_ne HO_5.out BK303.out (by decide))); replace HB := Aside0.mk (hb); clear HO_5; clear ho hb hg hat))
             go_roundg k3
             case measure => have := HJ2.out; have := HJ14.out; have := HK3.out; omega
             case rel => exact ⟨(y318), (wrap64 (x7_3 + 1)), rv, H', ⟨by have := HJ2.out; have := HJ14.out; have := HK3.out; omega⟩, (ra HO320.out), bk BK303, bh HB⟩
            ·rw [if_neg c32] at H
             exact absurd H (by simp)
           ·rw [if_neg c31] at H
            obtain ⟨c31b0, c31b1⟩ := eqf c31
            replace H := bnd H
            obtain ⟨t321, A35, H⟩ := H
            by_cases c36 : x5_3.length < 17592186044416
            ·rw [if_pos c36] at H
             have LMc36 := Aside0.mk c36
             clear c36
             obtain ⟨y322, hy322⟩ : ∃ y_ : List Int, y_ = (x5_3 ++ [t321]) := ⟨_, rfl⟩
             replace H : (spec_GuessOf.l0 k3 a0 y322 x6_14 (wrap64 (x7_3 + 1)) l1_0 l1_1 a1_2) = some r := by subst hy322; exact H
             have Ny322 := Aside0.mk hy322
             clear hy322
             have H' := Aside0.mk H
             clear H
             obtain ⟨hcz37_0, hcz37_1, hcz37_2, hfz37_0, hfz37_1, hfz37_2⟩ := cl3 BK303
             go_wp2_with (first | ((with_reducible refine gate_callee (f := 110) rfl ?_); refine gD (some 32) Try.func110 #[.slice A1_0 l1_0.length c1_0, .int .i64 (Int.tmod x7_3 8)] (spec_l13Filled.calls _ _ l1_0 (Int.tmod x7_3 8) t309 _ ?side1 ?side2 A19.out) ?_; (case side1 => exact ca (Kd.C_below HR1_0.out HB.out)); (case side2 => exact HC1_0.out); intro nd) | ((with_reducible refine gate_callee (f := 110) rfl ?_); refine gD (some 37) Try.func110 #[.slice A1_1 l1_1.length c1_1, .int .i64 (wrap64 (Int.tdiv x7_3 8))] (spec_l13Filled.calls _ _ l1_1 (wrap64 (Int.tdiv x7_3 8)) t310 _ ?side1 ?side2 A20.out) ?_ (hargs := (by (try simp only [List.map_toArray, List.map_cons, List.map_nil]); first | done | rfl | (rw [show (wrap64 (Int.tdiv x7_3 8)) = (Int.tdiv x7_3 8) from by unfold wrap64; omega]; rfl) | (simp only [List.length_drop, List.length_take]; rfl))); (case side1 => exact ca (Kd.C_below HR1_1.out (bo HB))); (case side2 => exact HC1_1.out); intro nd) | ((with_reducible refine gate_callee (f := 108) rfl ?_); refine gD (some 45) Try.func108 #[.int .i64 (wrap64 ((wrap64 (t310 + t309)) - x6_14)), .int .i64 0, .int .i64 255] (spec_Brought.calls k3 (wrap64 ((wrap64 (t310 + t309)) - x6_14)) 0 255 t321 _ A35.out) ?_ (hargs := (by (try simp only [List.map_toArray, List.map_cons, List.map_nil]); first | done | rfl | (rw [show (wrap64 ((wrap64 (t310 + t309)) - x6_14)) = ((wrap64 (t310 + t309)) - x6_14) from by unfold wrap64; omega]; rfl) | (simp only [List.length_drop, List.length_take]; rfl))); intro nd) | ((with_reducible refine gate_builtin (b := .append) (xs := #[.tmp 39, .tmp 46]) rfl ?_); at_builtin; refine Kd.R_append (Kd.int .i64) (w0 := w) w.heap.size rfl (.tmp 39) (.tmp 46) 35 3 (.int .i64 0) 8 rfl Try.underlying35 info3 rfl (by decide) (by omega) u5 x5_3 t321 [.int .i64 t321] (fun _ => True) (fun _ => False) rfl rfl ?aP (fun _ hk => hk.elim) ?aF ?aO ?aB ?aS ?aL ?_; (case aP => exact rfl); (case aB => exact (bo HB)); (case aF => exact (fun _ _ => trivial)); (case aO => exact (ro HO_5.out)); (case aS => exact (below_size (bo HB))); (case aL => have := LMc36.out; omega); intro v323 w38 ho hb hg hat; rw [← Ny322.out] at ho; have HO324 := Aside0.mk (ho); replace BK303 := Aside0.mk (blk_grown (bt BK303) hg (Kd.R_ne HO_5.out BK303.out (by decide))); replace HB := Aside0.mk (hb); clear HO_5; clear ho hb hg hat))
             go_roundg k3
             case measure => have := HJ2.out; have := HJ14.out; have := HK3.out; omega
             case rel => exact ⟨(y322), (wrap64 (x7_3 + 1)), rv, H', ⟨by have := HJ2.out; have := HJ14.out; have := HK3.out; omega⟩, (ra HO324.out), bk BK303, bh HB⟩
            ·rw [if_neg c36] at H
             exact absurd H (by simp)
        ·rw [if_neg c18] at H
         have c18b0 := decide_eq_false c18
         clear c18
         obtain rfl := Option.some.inj H
         go_wp2
         go_ret
         exact ⟨_, re, ro HO_5.out, bo HB⟩

end Go.Proofs.Ytnaccgommclhaaa.QFnExactSquareDots
