/- What the law reaches, as plain functions, each with the proof that its call comes to its answer: written by a program for this claim. -/
import Derived.Test.YtnaccgommclhaaaQFnExactSquareDotsx0
import Derived.Test.YtnaccgommclhaaaQFnExactSquareDotsx1
import Derived.Test.YtnaccgommclhaaaUFnExactSquareDotsV5
namespace Go.Proofs.Ytnaccgommclhaaa.QFnExactSquareDots
open Go.RowKit Go.Proofs.YtnaccgommclhaaaW.PrintWords Go.Proofs.YtnaccgommclhaaaW.PrintLast Go.Proofs.YtnaccgommclhaaaW.PrintMore Go.Proofs.YtnaccgommclhaaaV
attribute [local go_sem] max2_int min2_int max_two min_two max_three min_three max_four min_four   -- for this text's walks alone
set_option linter.unusedVariables false
set_option linter.unusedSimpArgs false
set_option maxHeartbeats 8000000
set_option maxRecDepth 100000

def spec_l13Dots.l0 : Nat → List Int → Int → Option (Bool)
 | 0, _, _ => none
 | k + 1, x0, x3 => if x3 < 64 then (if 0 ≤ x3 then (if x3 < (x0.length : Int) then ((spec_l01In.f (rd x0 x3) 0 255).bind fun t281 => (if t281 = true then (spec_l13Dots.l0 k x0 (wrap64 (x3 + 1))) else (some false))) else (none)) else (none)) else (some true)
def spec_l13Dots.f (k : Nat) (l0 : List Int) : Option (Bool) := if (l0.length : Int) = 64 then (spec_l13Dots.l0 k l0 0) else (some false)
theorem spec_l13Dots.calls (k : Nat) (A0 : Option Addr) (c0 : Nat) (l0 : List Int) (r : Bool) (w : World) (hr0 : Kd.C (Kd.int .i64) w A0 l0.length l0) (hc0 : l0.length ≤ c0) (h : spec_l13Dots.f k l0 = some r) :
  Calls Try.prog 107 #[.slice A0 l0.length c0] w fun e w' => e = .returned (.bool r) ∧ Drawn0 w w' := by
 have HR0 := Aside0.mk hr0
 have HC0 := Aside0.mk hc0
 clear hr0 hc0
 have H := h
 clear h
 unfold spec_l13Dots.f at H
 by_cases c2 : (l0.length : Int) = 64
 ·rw [if_pos c2] at H
  obtain ⟨c2b0, c2b1⟩ := eqt c2
  clear c2
  have H' := Aside0.mk H
  clear H
  go_enter Try.func107, Try.ntmps107
  go_wp2
  go_loopg [3] k (fun kq v3 w' => ∃ (x3_1 : Int), v3 = .int .i64 x3_1 ∧ Aside0 (spec_l13Dots.l0 kq l0 x3_1 = some r) ∧ Aside0 (kq ≤ k) ∧ Drawn0 w w')
  case atStart => exact ⟨(0), rv, H', ⟨Nat.le_refl _⟩, dr⟩
  case round =>
   clear H'
   obtain ⟨x3_1, rfl, HA, HK1, ⟨m1, rfl⟩⟩ := hrel
   cases gk with
   | zero => exact absurd HA.out (by simp [spec_l13Dots.l0])
   | succ k1 =>
    have H := HA.out
    clear HA
    simp only [spec_l13Dots.l0] at H
    by_cases c3 : x3_1 < 64
    ·rw [if_pos c3] at H
     have c3b0 := decide_eq_true c3
     clear c3
     by_cases c4 : 0 ≤ x3_1
     ·rw [if_pos c4] at H
      have c4b0 := decide_eq_true c4
      clear c4
      by_cases c5 : x3_1 < (l0.length : Int)
      ·rw [if_pos c5] at H
       have c5b0 := decide_eq_true c5
       clear c5
       replace H := bnd H
       obtain ⟨t281, A6, H⟩ := H
       by_cases c7 : t281 = true
       ·subst c7
        rw [if_pos rfl] at H
        have H' := Aside0.mk H
        clear H
        have p280 : 0 ≤ (x3_1 : Int) := od
        have q280 : x3_1 < (l0.length : Int) := od
        obtain ⟨ad280, e280, hx280_0⟩ := Kd.at_int HR0.out x3_1 p280 q280
        cases e280
        replace p280 := eq_true p280
        replace q280 := eq_true q280
        go_wp2_with (first | ((with_reducible refine gate_callee (f := 58) rfl ?_); refine gD (some 15) Try.func58 #[.int .i64 (rd l0 x3_1), .int .i64 0, .int .i64 255] (spec_l01In.calls (rd l0 x3_1) 0 255 true _ A6.out) ?_; intro nd))
        go_roundg k1
        case measure => have := HK1.out; omega
        case rel => exact ⟨(wrap64 (x3_1 + 1)), rv, H', ⟨by have := HK1.out; omega⟩, dr⟩
       ·replace c7 := Bool.eq_false_iff.mpr c7
        subst c7
        rw [if_neg nft] at H
        obtain rfl := Option.some.inj H
        have p280 : 0 ≤ (x3_1 : Int) := od
        have q280 : x3_1 < (l0.length : Int) := od
        obtain ⟨ad280, e280, hx280_0⟩ := Kd.at_int HR0.out x3_1 p280 q280
        cases e280
        replace p280 := eq_true p280
        replace q280 := eq_true q280
        go_wp2_with (first | ((with_reducible refine gate_callee (f := 58) rfl ?_); refine gD (some 15) Try.func58 #[.int .i64 (rd l0 x3_1), .int .i64 0, .int .i64 255] (spec_l01In.calls (rd l0 x3_1) 0 255 false _ A6.out) ?_; intro nd))
        go_ret
        exact ⟨rv, dr⟩
      ·rw [if_neg c5] at H
       exact absurd H (by simp)
     ·rw [if_neg c4] at H
      exact absurd H (by simp)
    ·rw [if_neg c3] at H
     have c3b0 := decide_eq_false c3
     clear c3
     obtain rfl := Option.some.inj H
     go_wp2
     go_ret
     exact ⟨rv, dr⟩
 ·rw [if_neg c2] at H
  obtain ⟨c2b0, c2b1⟩ := eqf c2
  obtain rfl := Option.some.inj H
  go_enter Try.func107, Try.ntmps107
  go_wp2
  go_ret
  exact ⟨rv, dr⟩

mutual
def spec_Joined.j0 : Nat → List Int → List Int → List Int → Bool → Option (List Int)
 | 0, _, _, _, _ => none
 | k + 1, x0, x1, x5, x15 => if x15 = true then (some x5) else (spec_Joined.l0 k x0 x1 x5 0)
def spec_Joined.l0 : Nat → List Int → List Int → List Int → Int → Option (List Int)
 | 0, _, _, _, _ => none
 | k + 1, x0, x1, x5, x6 => if x6 < 64 then (if 0 ≤ x6 then (if x6 < (x0.length : Int) then (if x6 < (x1.length : Int) then ((spec_Brought.f k (wrap64 ((rd x0 x6) + (rd x1 x6))) 0 255).bind fun t289 => (if x5.length < 17592186044416 then (spec_Joined.l0 k x0 x1 (x5 ++ [t289]) (wrap64 (x6 + 1))) else (none))) else (none)) else (none)) else (none)) else (some x5)
end
def spec_Joined.f (k : Nat) (l0 : List Int) (l1 : List Int) : Option (List Int) := (some (([] : List Int) : List Int)).bind fun y282 => ((spec_l13Dots.f k l0).bind fun t285 => (if t285 = true then ((spec_l09All.f k l1 64 10000000).bind fun t286 => (spec_Joined.j0 k l0 l1 y282 (!t286))) else (spec_Joined.j0 k l0 l1 y282 true)))
def spec_Joined.T7 : Bool × List (List Nat × List Nat) := (true, [([], []), ([], []), ([], []), ([1, 2], [1, 2]), ([3], [3]), ([], []), ([], []), ([5, 6], [5, 6]), ([7], [7]), ([4, 8], [4, 8]), ([9], [9]), ([10], [10]), ([0, 11, 10], [0, 11]), ([12, 12, 0, 1, 2, 3, 4, 5, 6, 7, 8, 9, 10, 11, 12], [0, 12])])
def spec_Joined.B7 : List Nat := [0, 0, 0, 6, 14, 0, 0, 96, 224, 510, 1022, 2046, 4095, 8191]
theorem spec_Joined.tab7 : rtab .any (opsOf Try.f69 7) = spec_Joined.T7 := by kernel_rfl
theorem spec_Joined.bits7 : waitsOk spec_Joined.T7.2 spec_Joined.B7 = true := by kernel_rfl
theorem spec_Joined.calls (k : Nat) (A0 : Option Addr) (c0 : Nat) (l0 : List Int) (A1 : Option Addr) (c1 : Nat) (l1 : List Int) (r : List Int) (w : World) (hr0 : Kd.C (Kd.int .i64) w A0 l0.length l0) (hc0 : l0.length ≤ c0) (hr1 : Kd.C (Kd.int .i64) w A1 l1.length l1) (hc1 : l1.length ≤ c1) (h : spec_Joined.f k l0 l1 = some r) :
  Calls Try.prog 69 #[.slice A0 l0.length c0, .slice A1 l1.length c1] w fun e w' => ∃ v0_ : Value, e = .returned (v0_) ∧ Kd.R (Kd.int .i64) 3 w' w.heap.size (fun _ => True) v0_ r ∧ Below w.heap.size w w' := by
 have HR0 := Aside0.mk hr0
 have HC0 := Aside0.mk hc0
 clear hr0 hc0
 have HR1 := Aside0.mk hr1
 have HC1 := Aside0.mk hc1
 clear hr1 hc1
 have HB := Aside0.mk (Below.refl w.heap.size w)
 have H := h
 clear h
 unfold spec_Joined.f at H
 replace H := yl H
 obtain ⟨y282, Ny282, H⟩ := H
 have HC3 := Aside0.mk H
 clear H
 go_enter Try.func69, Try.ntmps69
 go_upto_region 2 with (first | ((with_reducible refine gate_dst (N := 7) rfl ?_); refine Kd.R_lit (Kd.int .i64) _ 3 ?hg (N := 7) ?hd (xs := ([] : List Int)) (inner := []) (ok := fun _ => True) (okp := fun _ => True) ?hr ?hp (fun _ hk => hk) trivial (Below.refl _ _) (Nat.le_refl _) (by simp) ?_; (case hd => rfl); (case hg => rfl); (case hr => first | (go_simp; done) | (go_simp; rfl)); (case hp => exact (Reps.none _ _)); intro v283 w4 ho5 hb hg_ hnew_; clear hg_ hnew_; (first | rw [← Ny282.out] at ho5 | (simp only [Int.reduceToNat] at ho5; rw [← Ny282.out] at ho5)); have HO284 := Aside0.mk (Kd.R_lower ho5 (below_size (bo HB))); replace HB := bs HB hb; clear hb ho5))
 (try simp only [Act.put, List.setIfInBounds_toArray, List.set_cons_zero, List.set_cons_succ])
 go_cut [15] (fun v15 wc => ∃ (kq : Nat) (x15_2 : Bool), v15 = .bool x15_2 ∧ Aside0 (spec_Joined.j0 kq l0 l1 y282 x15_2 = some r) ∧ Aside0 (kq ≤ k) ∧ Aside0 (Kd.R (Kd.int .i64) 3 wc w.heap.size (fun _ => True) v283 y282) ∧ Aside0 (Below w.heap.size w wc))
 case first =>
  have H := HC3.out
  clear HC3
  replace H := bnd H
  obtain ⟨t285, A6, H⟩ := H
  by_cases c7 : t285 = true
  ·subst c7
   rw [if_pos rfl] at H
   replace H := bnd H
   obtain ⟨t286, A8, H⟩ := H
   have H' := Aside0.mk H
   clear H
   go_wp2_with (first | ((with_reducible refine gate_callee (f := 107) rfl ?_); refine gD (some 9) Try.func107 #[.slice A0 l0.length c0] (spec_l13Dots.calls k _ _ l0 true _ ?side1 ?side2 A6.out) ?_; (case side1 => exact ca (Kd.C_below HR0.out HB.out)); (case side2 => exact HC0.out); intro nd) | (go_at_call 101; (with_reducible refine (spec_l09All.calls k _ _ l1 64 10000000 t286 _ ?side1 ?side2 A8.out).mono ?_); (case side1 => exact ca (Kd.C_below HR1.out (bo HB))); (case side2 => exact HC1.out); rintro e w' ⟨rfl, ⟨nd, rfl⟩⟩))
   go_meet
   case rel => exact ⟨_, (!t286), rv, H', om, (ra HO284.out), bh HB⟩
  ·replace c7 := Bool.eq_false_iff.mpr c7
   subst c7
   rw [if_neg nft] at H
   have H' := Aside0.mk H
   clear H
   go_wp2_with (first | ((with_reducible refine gate_callee (f := 107) rfl ?_); refine gD (some 9) Try.func107 #[.slice A0 l0.length c0] (spec_l13Dots.calls k _ _ l0 false _ ?side1 ?side2 A6.out) ?_; (case side1 => exact ca (Kd.C_below HR0.out HB.out)); (case side2 => exact HC0.out); intro nd))
   go_meet
   case rel => exact ⟨_, (true), rv, H', om, (ra HO284.out), bh HB⟩
 case rest =>
  clear HC3
  obtain ⟨kq, x15_2, rfl, HA, HJ2, HO_5, HB⟩ := hcut
  cases kq with
  | zero => exact absurd HA.out (by simp [spec_Joined.j0])
  | succ kj2 =>
   have H := HA.out
   clear HA
   simp only [spec_Joined.j0] at H
   by_cases c9 : x15_2 = true
   ·subst c9
    rw [if_pos rfl] at H
    obtain rfl := Option.some.inj H
    go_wp2
    go_ret
    exact ⟨_, re, ro HO_5.out, bo HB⟩
   ·replace c9 := Bool.eq_false_iff.mpr c9
    subst c9
    rw [if_neg nft] at H
    have H' := Aside0.mk H
    clear H
    go_wp2
    go_loopg [5, 6] kj2 (fun kq v5 v6 w' => ∃ (x5_2 : List Int) (x6_2 : Int), v6 = .int .i64 x6_2 ∧ Aside0 (spec_Joined.l0 kq l0 l1 x5_2 x6_2 = some r) ∧ Aside0 (kq ≤ kj2) ∧ Aside0 (Kd.R (Kd.int .i64) 3 w' w.heap.size (fun _ => True) v5 x5_2) ∧ Aside0 (Below w.heap.size w w'))
    case atStart => exact ⟨(y282), (0), rv, H', ⟨Nat.le_refl _⟩, (ra HO_5.out), bh HB⟩
    case round =>
     clear H'
     obtain ⟨x5_2, x6_2, rfl, HA, HK2, HO_5, HB⟩ := hrel
     cases gk with
     | zero => exact absurd HA.out (by simp [spec_Joined.l0])
     | succ k2 =>
      have H := HA.out
      clear HA
      simp only [spec_Joined.l0] at H
      by_cases c10 : x6_2 < 64
      ·rw [if_pos c10] at H
       have c10b0 := decide_eq_true c10
       clear c10
       by_cases c11 : 0 ≤ x6_2
       ·rw [if_pos c11] at H
        have c11b0 := decide_eq_true c11
        clear c11
        by_cases c12 : x6_2 < (l0.length : Int)
        ·rw [if_pos c12] at H
         have c12b0 := decide_eq_true c12
         clear c12
         by_cases c13 : x6_2 < (l1.length : Int)
         ·rw [if_pos c13] at H
          have c13b0 := decide_eq_true c13
          clear c13
          replace H := bnd H
          obtain ⟨t289, A14, H⟩ := H
          by_cases c15 : x5_2.length < 17592186044416
          ·rw [if_pos c15] at H
           have LMc15 := Aside0.mk c15
           clear c15
           obtain ⟨y290, hy290⟩ : ∃ y_ : List Int, y_ = (x5_2 ++ [t289]) := ⟨_, rfl⟩
           replace H : (spec_Joined.l0 k2 l0 l1 y290 (wrap64 (x6_2 + 1))) = some r := by subst hy290; exact H
           have Ny290 := Aside0.mk hy290
           clear hy290
           have H' := Aside0.mk H
           clear H
           try go_wp2
           replace HO_5 := Aside0.mk (Kd.R_drew HO_5.out)
           replace HB := Aside0.mk (below_drew1 HB.out)
           have p287 : 0 ≤ (x6_2 : Int) := od
           have q287 : x6_2 < (l0.length : Int) := od
           obtain ⟨ad287, e287, hx287_0⟩ := Kd.at_int HR0.out x6_2 p287 q287
           have hw287_0 := hx287_0
           cases e287
           replace hx287_0 := (HB.out.cell (World.block_lt_of_cell? w _ hx287_0)).trans hx287_0
           replace p287 := eq_true p287
           replace q287 := eq_true q287
           have p288 : 0 ≤ (x6_2 : Int) := od
           have q288 : x6_2 < (l1.length : Int) := od
           obtain ⟨ad288, e288, hx288_0⟩ := Kd.at_int HR1.out x6_2 p288 q288
           have hw288_0 := hx288_0
           cases e288
           replace hx288_0 := (HB.out.cell (World.block_lt_of_cell? w _ hx288_0)).trans hx288_0
           replace p288 := eq_true p288
           replace q288 := eq_true q288
           refine start_ (n := 14) (S := fun w' => w'.cell? (ad287.add (x6_2).toNat) = some (.int .i64 (rd l0 x6_2)) ∧ w'.cell? (ad288.add (x6_2).toNat) = some (.int .i64 (rd l1 x6_2))) (ds := []) (ba 14 0) (by kernel_rfl) rfl rfl ⟨(hcl HB hw287_0), (hcl HB hw288_0)⟩ (fun hHeld => ?_); refine with_tabW spec_Joined.tab7 spec_Joined.bits7 (fun HT_ HW_ => ?_)
           generalize wr.drew = w16 at HO_5 HB hx287_0 hx288_0 hHeld ⊢
           refine pu 0 21 (ba 14 1) ?_
           refine pu 1 22 (ba 14 3) ?_
           refine pu 2 23 (ba 14 7) ?_
           refine pu 3 24 (ba 14 15) ?_
           refine pu 5 26 (ba 14 47) ?_
           refine pu 6 27 (ba 14 111) ?_
           refine pu 7 28 (ba 14 239) ?_
           refine tk 4 25 (ba 14 255) hHeld ?_
           refine tk 8 29 (ba 14 511) hHeld ?_
           refine pu 9 30 (ba 14 1023) ?_
           refine on 10 31 (ba 14 2047) (fun K hK => ?_)
           refine gS Try.func108 #[.int .i64 (wrap64 ((rd l0 x6_2) + (rd l1 x6_2))), .int .i64 0, .int .i64 255] ?_
           with_reducible refine (spec_Brought.calls k2 (wrap64 ((rd l0 x6_2) + (rd l1 x6_2))) 0 255 t289 _ A14.out).mono ?_
           rintro e w' ⟨rfl, ⟨nd, rfl⟩⟩
           refine ⟨_, rfl, ?_⟩
           refine hK.out _ _ ⟨(hcl HB hw287_0), (hcl HB hw288_0)⟩ (fun hHeld => ?_)
           clear hK K
           refine nm ?_
           refine on 11 32 (ba 14 4095) (fun K hK => ?_)
           refine value_ (w1 := ?_) (v := ?_) (by rfl) rfl ?_ ?_
           rotate_left 2
           ·go_simp
            constructor
            ·rfl
            ·rfl
           refine hK.out _ _ ⟨(World.cell?_alloc_lt _ _ _ (World.block_lt_of_cell? _ _ ((hcl HB hw287_0)))).trans ((hcl HB hw287_0)), (World.cell?_alloc_lt _ _ _ (World.block_lt_of_cell? _ _ ((hcl HB hw288_0)))).trans ((hcl HB hw288_0))⟩ (fun hHeld => ?_)
           clear hK K
           refine nm ?_
           refine on 12 33 (ba 14 8191) (fun K hK => ?_)
           refine Kd.R_append_step (Kd.int .i64) (w0 := w) w.heap.size (by rfl) (.tmp 21) (.tmp 32) 35 3 (.int .i64 0) 8 rfl Try.underlying35 info3 rfl (by decide) (by omega) u5 x5_2 t289 [.int .i64 t289] (fun _ => True) (fun _ => False) rfl rfl ?aP (fun _ hk => hk.elim) ?aF ?aO ?aB ?aS ?aL ?_
           (case aP => exact rfl)
           (case aB => exact (bo HB))
           (case aF => exact (fun _ _ => trivial))
           (case aO => exact (ro HO_5.out))
           (case aS => exact (below_size (bo HB)))
           (case aL => have := LMc15.out; omega)
           intro v291 w17 ho hb hg hat
           rw [← Ny290.out] at ho
           have HO292 := Aside0.mk (ho)
           replace HB := Aside0.mk (hb)
           clear HO_5
           clear ho hb hg hat
           refine hK.out _ _ ⟨(hcl HB hw287_0), (hcl HB hw288_0)⟩ (fun hHeld => ?_)
           clear hK K
           refine nm ?_
           refine pu 13 5 (ba 14 16383) ?_
           refine done_ (done_of HT_.out (by kernel_rfl)) ?_
           try go_wp2
           go_roundg k2
           case measure => have := HJ2.out; have := HK2.out; omega
           case rel => exact ⟨(y290), (wrap64 (x6_2 + 1)), rv, H', ⟨by have := HJ2.out; have := HK2.out; omega⟩, (ra HO292.out), bh HB⟩
          ·rw [if_neg c15] at H
           exact absurd H (by simp)
         ·rw [if_neg c13] at H
          exact absurd H (by simp)
        ·rw [if_neg c12] at H
         exact absurd H (by simp)
       ·rw [if_neg c11] at H
        exact absurd H (by simp)
      ·rw [if_neg c10] at H
       have c10b0 := decide_eq_false c10
       clear c10
       obtain rfl := Option.some.inj H
       go_wp2
       go_ret
       exact ⟨_, re, ro HO_5.out, bo HB⟩

mutual
def spec_l13Side.j0 : Nat → List Int → Bool → Option (Bool)
 | 0, _, _ => none
 | k + 1, x0, x11 => if x11 = true then (some false) else (spec_l13Side.l0 k x0 0)
def spec_l13Side.l0 : Nat → List Int → Int → Option (Bool)
 | 0, _, _ => none
 | k + 1, x0, x3 => if x3 < (x0.length : Int) then (if 0 ≤ x3 then ((spec_l01In.f (rd x0 x3) 0 255).bind fun t294 => (if t294 = true then (spec_l13Side.l0 k x0 (wrap64 (x3 + 1))) else (some false))) else (none)) else (some true)
end
def spec_l13Side.f (k : Nat) (l0 : List Int) : Option (Bool) := if (l0.length : Int) = 0 then (spec_l13Side.j0 k l0 false) else (spec_l13Side.j0 k l0 ((l0.length : Int) != 8))
theorem spec_l13Side.calls (k : Nat) (A0 : Option Addr) (c0 : Nat) (l0 : List Int) (r : Bool) (w : World) (hr0 : Kd.C (Kd.int .i64) w A0 l0.length l0) (hc0 : l0.length ≤ c0) (h : spec_l13Side.f k l0 = some r) :
  Calls Try.prog 147 #[.slice A0 l0.length c0] w fun e w' => e = .returned (.bool r) ∧ Drawn0 w w' := by
 have HR0 := Aside0.mk hr0
 have HC0 := Aside0.mk hc0
 clear hr0 hc0
 have H := h
 clear h
 unfold spec_l13Side.f at H
 have HC2 := Aside0.mk H
 clear H
 go_enter Try.func147, Try.ntmps147
 go_upto_region 1 with (fail)
 go_cut [11] (fun v11 wc => ∃ (kq : Nat) (x11_1 : Bool), v11 = .bool x11_1 ∧ Aside0 (spec_l13Side.j0 kq l0 x11_1 = some r) ∧ Aside0 (kq ≤ k) ∧ Drawn0 w wc)
 case first =>
  have H := HC2.out
  clear HC2
  by_cases c3 : (l0.length : Int) = 0
  ·rw [if_pos c3] at H
   obtain ⟨c3b0, c3b1⟩ := eqt c3
   clear c3
   (first | rw [c3b0] | (simp only [i64_w, i32_w]; rw [c3b0]) | skip)
   have H' := Aside0.mk H
   clear H
   go_wp2
   go_meet
   case rel => exact ⟨_, (false), rv, H', om, dr⟩
  ·rw [if_neg c3] at H
   obtain ⟨c3b0, c3b1⟩ := eqf c3
   have c3b2 : ¬ (l0 = []) := fun h_ => c3 (by rw [h_]; rfl)
   (first | rw [c3b0] | (simp only [i64_w, i32_w]; rw [c3b0]) | skip)
   have H' := Aside0.mk H
   clear H
   go_wp2
   go_meet
   case rel => exact ⟨_, (((l0.length : Int) != 8)), rv, H', om, dr⟩
 case rest =>
  clear HC2
  obtain ⟨kq, x11_1, rfl, HA, HJ1, ⟨mc1, rfl⟩⟩ := hcut
  cases kq with
  | zero => exact absurd HA.out (by simp [spec_l13Side.j0])
  | succ kj1 =>
   have H := HA.out
   clear HA
   simp only [spec_l13Side.j0] at H
   by_cases c4 : x11_1 = true
   ·subst c4
    rw [if_pos rfl] at H
    obtain rfl := Option.some.inj H
    go_wp2
    go_ret
    exact ⟨rv, dr⟩
   ·replace c4 := Bool.eq_false_iff.mpr c4
    subst c4
    rw [if_neg nft] at H
    have H' := Aside0.mk H
    clear H
    go_wp2
    go_loopg [3] kj1 (fun kq v3 w' => ∃ (x3_2 : Int), v3 = .int .i64 x3_2 ∧ Aside0 (spec_l13Side.l0 kq l0 x3_2 = some r) ∧ Aside0 (kq ≤ kj1) ∧ Drawn0 w w')
    case atStart => exact ⟨(0), rv, H', ⟨Nat.le_refl _⟩, dr⟩
    case round =>
     clear H'
     obtain ⟨x3_2, rfl, HA, HK2, ⟨m2, rfl⟩⟩ := hrel
     cases gk with
     | zero => exact absurd HA.out (by simp [spec_l13Side.l0])
     | succ k2 =>
      have H := HA.out
      clear HA
      simp only [spec_l13Side.l0] at H
      by_cases c5 : x3_2 < (l0.length : Int)
      ·rw [if_pos c5] at H
       have c5b0 := decide_eq_true c5
       clear c5
       by_cases c6 : 0 ≤ x3_2
       ·rw [if_pos c6] at H
        have c6b0 := decide_eq_true c6
        clear c6
        replace H := bnd H
        obtain ⟨t294, A7, H⟩ := H
        by_cases c8 : t294 = true
        ·subst c8
         rw [if_pos rfl] at H
         have H' := Aside0.mk H
         clear H
         have p293 : 0 ≤ (x3_2 : Int) := od
         have q293 : x3_2 < (l0.length : Int) := od
         obtain ⟨ad293, e293, hx293_0⟩ := Kd.at_int HR0.out x3_2 p293 q293
         cases e293
         replace p293 := eq_true p293
         replace q293 := eq_true q293
         go_wp2_with (first | ((with_reducible refine gate_callee (f := 58) rfl ?_); refine gD (some 22) Try.func58 #[.int .i64 (rd l0 x3_2), .int .i64 0, .int .i64 255] (spec_l01In.calls (rd l0 x3_2) 0 255 true _ A7.out) ?_; intro nd))
         go_roundg k2
         case measure => have := HJ1.out; have := HK2.out; omega
         case rel => exact ⟨(wrap64 (x3_2 + 1)), rv, H', ⟨by have := HJ1.out; have := HK2.out; omega⟩, dr⟩
        ·replace c8 := Bool.eq_false_iff.mpr c8
         subst c8
         rw [if_neg nft] at H
         obtain rfl := Option.some.inj H
         have p293 : 0 ≤ (x3_2 : Int) := od
         have q293 : x3_2 < (l0.length : Int) := od
         obtain ⟨ad293, e293, hx293_0⟩ := Kd.at_int HR0.out x3_2 p293 q293
         cases e293
         replace p293 := eq_true p293
         replace q293 := eq_true q293
         go_wp2_with (first | ((with_reducible refine gate_callee (f := 58) rfl ?_); refine gD (some 22) Try.func58 #[.int .i64 (rd l0 x3_2), .int .i64 0, .int .i64 255] (spec_l01In.calls (rd l0 x3_2) 0 255 false _ A7.out) ?_; intro nd))
         go_ret
         exact ⟨rv, dr⟩
       ·rw [if_neg c6] at H
        exact absurd H (by simp)
      ·rw [if_neg c5] at H
       have c5b0 := decide_eq_false c5
       clear c5
       obtain rfl := Option.some.inj H
       go_wp2
       go_ret
       exact ⟨rv, dr⟩

def spec_EdgesOk.f (k : Nat) (l0_0 : List Int) (l0_1 : List Int) (a0_2 : Int) : Option (Bool) := (spec_l13Side.f k l0_0).bind fun t296 => (if t296 = true then ((spec_l13Side.f k l0_1).bind fun t297 => (if t297 = true then ((spec_l01In.f a0_2 (-1) 255).bind fun t298 => (some t298)) else (some false))) else (some false))
theorem spec_EdgesOk.calls (k : Nat) (A0_0 : Option Addr) (c0_0 : Nat) (l0_0 : List Int) (A0_1 : Option Addr) (c0_1 : Nat) (l0_1 : List Int) (a0_2 : Int) (r : Bool) (w : World) (hr0_0 : Kd.C (Kd.int .i64) w A0_0 l0_0.length l0_0) (hc0_0 : l0_0.length ≤ c0_0) (hr0_1 : Kd.C (Kd.int .i64) w A0_1 l0_1.length l0_1) (hc0_1 : l0_1.length ≤ c0_1) (h : spec_EdgesOk.f k l0_0 l0_1 a0_2 = some r) :
  Calls Try.prog 109 #[.agg #[.slice A0_0 l0_0.length c0_0, .slice A0_1 l0_1.length c0_1, .int .i64 a0_2]] w fun e w' => e = .returned (.bool r) ∧ Below w.heap.size w w' := by
 have hu101 := Try.underlying101
 have HR0_0 := Aside0.mk hr0_0
 have HC0_0 := Aside0.mk hc0_0
 clear hr0_0 hc0_0
 have HR0_1 := Aside0.mk hr0_1
 have HC0_1 := Aside0.mk hc0_1
 clear hr0_1 hc0_1
 have HB := Aside0.mk (Below.refl w.heap.size w)
 have H := h
 clear h
 unfold spec_EdgesOk.f at H
 replace H := bnd H
 obtain ⟨t296, A2, H⟩ := H
 by_cases c3 : t296 = true
 ·subst c3
  rw [if_pos rfl] at H
  replace H := bnd H
  obtain ⟨t297, A4, H⟩ := H
  by_cases c5 : t297 = true
  ·subst c5
   rw [if_pos rfl] at H
   replace H := bnd H
   obtain ⟨t298, A6, H⟩ := H
   obtain rfl := Option.some.inj H
   go_enter Try.func109, Try.ntmps109
   go_wp2_with (first | ((with_reducible refine gate_dst (N := 1) rfl ?_); refine bx 1 #[.slice A0_0 l0_0.length c0_0, .slice A0_1 l0_1.length c0_1, .int .i64 a0_2] 101 ?_; intro gb295 hg w7 BK295 hb; have GW295 := ge HB hg; have GE295 := ge HB hg; replace HB := bs HB hb; clear hb hg; obtain ⟨hcz8_0, hcz8_1, hcz8_2, hfz8_0, hfz8_1, hfz8_2⟩ := cl3 BK295) | ((with_reducible refine gate_callee (f := 147) rfl ?_); refine gD (some 5) Try.func147 #[.slice A0_0 l0_0.length c0_0] (spec_l13Side.calls k _ _ l0_0 true _ ?side1 ?side2 A2.out) ?_; (case side1 => exact ca (Kd.C_below HR0_0.out HB.out)); (case side2 => exact HC0_0.out); intro nd) | (go_at_call 147; (with_reducible refine (spec_l13Side.calls k _ _ l0_1 true _ ?side1 ?side2 A4.out).mono ?_); (case side1 => exact ca (Kd.C_below HR0_1.out (bo HB))); (case side2 => exact HC0_1.out); rintro e w' ⟨rfl, ⟨nd, rfl⟩⟩) | (go_at_call 58; (with_reducible refine (spec_l01In.calls a0_2 (-1) 255 t298 _ A6.out).mono ?_); rintro e w' ⟨rfl, ⟨nd, rfl⟩⟩))
   go_ret
   exact ⟨re, bo HB⟩
  ·replace c5 := Bool.eq_false_iff.mpr c5
   subst c5
   rw [if_neg nft] at H
   obtain rfl := Option.some.inj H
   go_enter Try.func109, Try.ntmps109
   go_wp2_with (first | ((with_reducible refine gate_dst (N := 1) rfl ?_); refine bx 1 #[.slice A0_0 l0_0.length c0_0, .slice A0_1 l0_1.length c0_1, .int .i64 a0_2] 101 ?_; intro gb295 hg w9 BK295 hb; have GW295 := ge HB hg; have GE295 := ge HB hg; replace HB := bs HB hb; clear hb hg; obtain ⟨hcz10_0, hcz10_1, hcz10_2, hfz10_0, hfz10_1, hfz10_2⟩ := cl3 BK295) | ((with_reducible refine gate_callee (f := 147) rfl ?_); refine gD (some 5) Try.func147 #[.slice A0_0 l0_0.length c0_0] (spec_l13Side.calls k _ _ l0_0 true _ ?side1 ?side2 A2.out) ?_; (case side1 => exact ca (Kd.C_below HR0_0.out HB.out)); (case side2 => exact HC0_0.out); intro nd) | (go_at_call 147; (with_reducible refine (spec_l13Side.calls k _ _ l0_1 false _ ?side1 ?side2 A4.out).mono ?_); (case side1 => exact ca (Kd.C_below HR0_1.out (bo HB))); (case side2 => exact HC0_1.out); rintro e w' ⟨rfl, ⟨nd, rfl⟩⟩))
   go_ret
   exact ⟨re, bo HB⟩
 ·replace c3 := Bool.eq_false_iff.mpr c3
  subst c3
  rw [if_neg nft] at H
  obtain rfl := Option.some.inj H
  go_enter Try.func109, Try.ntmps109
  go_wp2_with (first | ((with_reducible refine gate_dst (N := 1) rfl ?_); refine bx 1 #[.slice A0_0 l0_0.length c0_0, .slice A0_1 l0_1.length c0_1, .int .i64 a0_2] 101 ?_; intro gb295 hg w11 BK295 hb; have GW295 := ge HB hg; have GE295 := ge HB hg; replace HB := bs HB hb; clear hb hg; obtain ⟨hcz12_0, hcz12_1, hcz12_2, hfz12_0, hfz12_1, hfz12_2⟩ := cl3 BK295) | ((with_reducible refine gate_callee (f := 147) rfl ?_); refine gD (some 5) Try.func147 #[.slice A0_0 l0_0.length c0_0] (spec_l13Side.calls k _ _ l0_0 false _ ?side1 ?side2 A2.out) ?_; (case side1 => exact ca (Kd.C_below HR0_0.out HB.out)); (case side2 => exact HC0_0.out); intro nd))
  go_ret
  exact ⟨re, bo HB⟩

def spec_l13Filled.f (l0 : List Int) (a1 : Int) : Option (Int) := if (l0.length : Int) = 0 then (some 128) else (if 0 ≤ a1 then (if a1 < (l0.length : Int) then (some (rd l0 a1)) else (none)) else (none))
theorem spec_l13Filled.calls (A0 : Option Addr) (c0 : Nat) (l0 : List Int) (a1 : Int) (r : Int) (w : World) (hr0 : Kd.C (Kd.int .i64) w A0 l0.length l0) (hc0 : l0.length ≤ c0) (h : spec_l13Filled.f l0 a1 = some r) :
  Calls Try.prog 110 #[.slice A0 l0.length c0, .int .i64 a1] w fun e w' => e = .returned (.int .i64 r) ∧ Drawn0 w w' := by
 have HR0 := Aside0.mk hr0
 have HC0 := Aside0.mk hc0
 clear hr0 hc0
 have H := h
 clear h
 unfold spec_l13Filled.f at H
 by_cases c3 : (l0.length : Int) = 0
 ·rw [if_pos c3] at H
  obtain ⟨c3b0, c3b1⟩ := eqt c3
  clear c3
  obtain rfl := Option.some.inj H
  go_enter Try.func110, Try.ntmps110
  go_wp2
  go_ret
  exact ⟨rv, dr⟩
 ·rw [if_neg c3] at H
  obtain ⟨c3b0, c3b1⟩ := eqf c3
  have c3b2 : ¬ (l0 = []) := fun h_ => c3 (by rw [h_]; rfl)
  by_cases c4 : 0 ≤ a1
  ·rw [if_pos c4] at H
   have c4b0 := decide_eq_true c4
   clear c4
   by_cases c5 : a1 < (l0.length : Int)
   ·rw [if_pos c5] at H
    have c5b0 := decide_eq_true c5
    clear c5
    obtain rfl := Option.some.inj H
    have p299 : 0 ≤ (a1 : Int) := od
    have q299 : a1 < (l0.length : Int) := od
    obtain ⟨ad299, e299, hx299_0⟩ := Kd.at_int HR0.out a1 p299 q299
    cases e299
    replace p299 := eq_true p299
    replace q299 := eq_true q299
    go_enter Try.func110, Try.ntmps110
    go_wp2
    go_ret
    exact ⟨rv, dr⟩
   ·rw [if_neg c5] at H
    exact absurd H (by simp)
  ·rw [if_neg c4] at H
   exact absurd H (by simp)

end Go.Proofs.Ytnaccgommclhaaa.QFnExactSquareDots
