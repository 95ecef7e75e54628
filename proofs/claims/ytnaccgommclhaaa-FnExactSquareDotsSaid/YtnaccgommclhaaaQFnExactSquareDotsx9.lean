/- What the law reaches, as plain functions, each with the proof that its call comes to its answer: written by a program for this claim. -/
import Derived.Test.YtnaccgommclhaaaQFnExactSquareDotsx0
import Derived.Test.YtnaccgommclhaaaQFnExactSquareDotsx1
import Derived.Test.YtnaccgommclhaaaQFnExactSquareDotsx4
import Derived.Test.YtnaccgommclhaaaQFnExactSquareDotsx5
import Derived.Test.YtnaccgommclhaaaQFnExactSquareDotsx6
import Derived.Test.YtnaccgommclhaaaQFnExactSquareDotsx7
import Derived.Test.YtnaccgommclhaaaQFnExactSquareDotsx8
import Derived.Test.YtnaccgommclhaaaUFnExactSquareDotsV5
namespace Go.Proofs.Ytnaccgommclhaaa.QFnExactSquareDots
open Go.RowKit Go.Proofs.YtnaccgommclhaaaW.PrintWords Go.Proofs.YtnaccgommclhaaaW.PrintLast Go.Proofs.YtnaccgommclhaaaW.PrintMore Go.Proofs.YtnaccgommclhaaaV
attribute [local go_sem] max2_int min2_int max_two min_two max_three min_three max_four min_four   -- for this text's walks alone
set_option linter.unusedVariables false
set_option linter.unusedSimpArgs false
set_option maxHeartbeats 8000000
set_option maxRecDepth 100000

mutual
def spec_LevelsBack.j0 : Nat → List Int → Bool → Bool → Int → Bool → Bool → Option (List Int × Bool)
 | 0, _, _, _, _, _, _ => none
 | k + 1, x0, x23, x245000, x245001, x245002, x245003 => if x23 = true then (some ((([] : List Int)), false)) else (if x245003 = true then ((spec_Unscanned.f k 8 x0).bind fun bt250 => (some (bt250.1, bt250.2))) else (if x245002 = true then ((spec_Unscanned.f k 8 x0).bind fun bt254 => (spec_LevelsBack.l0 k bt254.1 0 x245000 x245001 x245002 x245003)) else (if 64 ≤ 35184372088832 then (spec_LevelsBack.l1 k x0 (List.replicate 64 0) 0 x245000 x245001 x245002 x245003) else (none))))
def spec_LevelsBack.l0 : Nat → List Int → Int → Bool → Int → Bool → Bool → Option (List Int × Bool)
 | 0, _, _, _, _, _, _ => none
 | k + 1, x6, x8, x245000, x245001, x245002, x245003 => if x8 < 64 then (if 0 ≤ x8 then (if x8 < (x6.length : Int) then ((spec_LargeBack.f k (rd x6 x8) x245001).bind fun t259 => (spec_LevelsBack.l0 k (x6.set (x8 : Int).toNat t259) (wrap64 (x8 + 1)) x245000 x245001 x245002 x245003)) else (none)) else (none)) else ((spec_EightBack.f k x6).bind fun t261 => (some (t261, true)))
def spec_LevelsBack.l1 : Nat → List Int → List Int → Int → Bool → Int → Bool → Bool → Option (List Int × Bool)
 | 0, _, _, _, _, _, _, _ => none
 | k + 1, x0, x9, x10, x245000, x245001, x245002, x245003 => if x10 < 4 then (if 0 ≤ (wrap64 (16 * x10)) then (if (wrap64 (16 * x10)) ≤ (wrap64 ((wrap64 (16 * x10)) + 16)) then (if (wrap64 ((wrap64 (16 * x10)) + 16)) ≤ (x0.length : Int) then ((spec_Unscanned.f k 4 ((x0.take ((wrap64 ((wrap64 (16 * x10)) + 16)) : Int).toNat).drop ((wrap64 (16 * x10)) : Int).toNat)).bind fun bt268 => (spec_LevelsBack.l2 k x0 x9 x10 bt268.1 0 x245000 x245001 x245002 x245003)) else (none)) else (none)) else (none)) else (some (x9, true))
def spec_LevelsBack.l2 : Nat → List Int → List Int → Int → List Int → Int → Bool → Int → Bool → Bool → Option (List Int × Bool)
 | 0, _, _, _, _, _, _, _, _, _ => none
 | k + 1, x0, x9, x10, x11, x13, x245000, x245001, x245002, x245003 => if x13 < 16 then (if 0 ≤ x13 then (if x13 < (x11.length : Int) then ((spec_SmallBack.f k (rd x11 x13) x245001 x13).bind fun t273 => (spec_LevelsBack.l2 k x0 x9 x10 (x11.set (x13 : Int).toNat t273) (wrap64 (x13 + 1)) x245000 x245001 x245002 x245003)) else (none)) else (none)) else ((spec_FourBack.f k x11).bind fun t275 => (spec_LevelsBack.l3 k x0 x9 x10 t275 0 x245000 x245001 x245002 x245003))
def spec_LevelsBack.l3 : Nat → List Int → List Int → Int → List Int → Int → Bool → Int → Bool → Bool → Option (List Int × Bool)
 | 0, _, _, _, _, _, _, _, _, _ => none
 | k + 1, x0, x9, x10, x14, x15, x245000, x245001, x245002, x245003 => if x15 < 16 then (if 0 ≤ x15 then (if x15 < (x14.length : Int) then (if 0 ≤ (wrap64 ((wrap64 ((wrap64 (8 * (wrap64 ((wrap64 ((wrap64 (Int.tdiv x10 2)) * 4)) + (wrap64 (Int.tdiv x15 4)))))) + (wrap64 ((Int.tmod x10 2) * 4)))) + (Int.tmod x15 4))) then (if (wrap64 ((wrap64 ((wrap64 (8 * (wrap64 ((wrap64 ((wrap64 (Int.tdiv x10 2)) * 4)) + (wrap64 (Int.tdiv x15 4)))))) + (wrap64 ((Int.tmod x10 2) * 4)))) + (Int.tmod x15 4))) < (x9.length : Int) then (spec_LevelsBack.l3 k x0 (x9.set ((wrap64 ((wrap64 ((wrap64 (8 * (wrap64 ((wrap64 ((wrap64 (Int.tdiv x10 2)) * 4)) + (wrap64 (Int.tdiv x15 4)))))) + (wrap64 ((Int.tmod x10 2) * 4)))) + (Int.tmod x15 4))) : Int).toNat (rd x14 x15)) x10 x14 (wrap64 (x15 + 1)) x245000 x245001 x245002 x245003) else (none)) else (none)) else (none)) else (none)) else (spec_LevelsBack.l1 k x0 x9 (wrap64 (x10 + 1)) x245000 x245001 x245002 x245003)
end
def spec_LevelsBack.f (k : Nat) (l0 : List Int) (a1_0 : Bool) (a1_1 : Int) (a1_2 : Bool) (a1_3 : Bool) : Option (List Int × Bool) := (spec_CondOk.f a1_0 a1_1 a1_2 a1_3).bind fun t245 => (if t245 = true then ((spec_l09All.f k l0 64 5000).bind fun t246 => (spec_LevelsBack.j0 k l0 (!t246) a1_0 a1_1 a1_2 a1_3)) else (spec_LevelsBack.j0 k l0 true a1_0 a1_1 a1_2 a1_3))
def spec_LevelsBack.T10 : Bool × List (List Nat × List Nat) := (true, [([], []), ([], []), ([], []), ([], []), ([2, 3], [2, 3]), ([4], [4]), ([], []), ([6], [6]), ([5, 7], [5, 7]), ([0, 1, 0, 1, 2, 3, 4, 5, 6, 7, 8], [0, 1]), ([9, 8, 8, 0, 1, 2, 3, 4, 5, 6, 7, 8], [8, 9])])
def spec_LevelsBack.B10 : List Nat := [0, 0, 0, 0, 12, 28, 0, 64, 252, 511, 1023]
theorem spec_LevelsBack.tab10 : rtab .any (opsOf Try.f68 10) = spec_LevelsBack.T10 := by kernel_rfl
theorem spec_LevelsBack.bits10 : waitsOk spec_LevelsBack.T10.2 spec_LevelsBack.B10 = true := by kernel_rfl
def spec_LevelsBack.T20 : Bool × List (List Nat × List Nat) := (true, [([], []), ([], []), ([], []), ([], []), ([2, 3], [2, 3]), ([4], [4]), ([], []), ([6], [6]), ([], []), ([5, 7, 8], [5, 7, 8]), ([0, 1, 0, 1, 2, 3, 4, 5, 6, 7, 8, 9], [0, 1]), ([10, 9, 9, 0, 1, 2, 3, 4, 5, 6, 7, 8, 9], [9, 10])])
def spec_LevelsBack.B20 : List Nat := [0, 0, 0, 0, 12, 28, 0, 64, 0, 508, 1023, 2047]
theorem spec_LevelsBack.tab20 : rtab .any (opsOf Try.f68 20) = spec_LevelsBack.T20 := by kernel_rfl
theorem spec_LevelsBack.bits20 : waitsOk spec_LevelsBack.T20.2 spec_LevelsBack.B20 = true := by kernel_rfl
theorem spec_LevelsBack.calls (k : Nat) (A0 : Option Addr) (c0 : Nat) (l0 : List Int) (a1_0 : Bool) (a1_1 : Int) (a1_2 : Bool) (a1_3 : Bool) (r1 : List Int) (r2 : Bool) (w : World) (hr0 : Kd.C (Kd.int .i64) w A0 l0.length l0) (hc0 : l0.length ≤ c0) (h : spec_LevelsBack.f k l0 a1_0 a1_1 a1_2 a1_3 = some (r1, r2)) :
  Calls Try.prog 68 #[.slice A0 l0.length c0, .agg #[.bool a1_0, .int .i64 a1_1, .bool a1_2, .bool a1_3]] w fun e w' => ∃ v0_ : Value, e = .returned (.tuple #[v0_, .bool r2]) ∧ Kd.R (Kd.int .i64) 3 w' w.heap.size (fun _ => True) v0_ r1 ∧ Below w.heap.size w w' := by
 have hu50 := Try.underlying50
 have HR0 := Aside0.mk hr0
 have HC0 := Aside0.mk hc0
 clear hr0 hc0
 have HB := Aside0.mk (Below.refl w.heap.size w)
 have H := h
 clear h
 unfold spec_LevelsBack.f at H
 have HC3 := Aside0.mk H
 clear H
 go_enter Try.func68, Try.ntmps68
 go_upto_region 1 with (first | ((with_reducible refine gate_dst (N := 3) rfl ?_); refine bx 3 #[.bool a1_0, .int .i64 a1_1, .bool a1_2, .bool a1_3] 50 ?_; intro gb244 hg w4 BK244 hb; have GW244 := ge HB hg; have GE244 := ge HB hg; replace HB := bs HB hb; clear hb hg))
 (try simp only [Act.put, List.setIfInBounds_toArray, List.set_cons_zero, List.set_cons_succ])
 go_cut [23] (fun v23 wc => ∃ (kq : Nat) (x23_2 : Bool), v23 = .bool x23_2 ∧ Aside0 (spec_LevelsBack.j0 kq l0 x23_2 a1_0 a1_1 a1_2 a1_3 = some (r1, r2)) ∧ Aside0 (kq ≤ k) ∧ Aside0 (wc.heap[gb244]? = some (.cells #[.bool a1_0, .int .i64 a1_1, .bool a1_2, .bool a1_3] 50 (0, 0))) ∧ Aside0 (Below w.heap.size w wc))
 case first =>
  have H := HC3.out
  clear HC3
  replace H := bnd H
  obtain ⟨t245, A5, H⟩ := H
  by_cases c6 : t245 = true
  ·subst c6
   rw [if_pos rfl] at H
   replace H := bnd H
   obtain ⟨t246, A7, H⟩ := H
   have H' := Aside0.mk H
   clear H
   obtain ⟨hcz8_0, hcz8_1, hcz8_2, hcz8_3, hfz8_0, hfz8_1, hfz8_2, hfz8_3⟩ := cl4 BK244
   go_wp2_with (first | ((with_reducible refine gate_callee (f := 59) rfl ?_); refine gL (some 17) Try.func59 #[.agg #[.bool a1_0, .int .i64 a1_1, .bool a1_2, .bool a1_3]] ?_; (with_reducible refine (spec_CondOk.calls a1_0 a1_1 a1_2 a1_3 true _ A5.out).mono ?_); rintro e w9 ⟨rfl, hb⟩; refine ⟨_, rfl, ?_⟩; replace BK244 := bb BK244 hb; replace HB := bs HB hb; (try clear hb)) | (go_at_call 101; (with_reducible refine (spec_l09All.calls k _ _ l0 64 5000 t246 _ ?side1 ?side2 A7.out).mono ?_); (case side1 => exact ca (Kd.C_below HR0.out HB.out)); (case side2 => exact HC0.out); rintro e w' ⟨rfl, ⟨nd, rfl⟩⟩))
   go_meet
   case rel => exact ⟨_, (!t246), rv, H', om, bk BK244, bh HB⟩
  ·replace c6 := Bool.eq_false_iff.mpr c6
   subst c6
   rw [if_neg nft] at H
   have H' := Aside0.mk H
   clear H
   obtain ⟨hcz10_0, hcz10_1, hcz10_2, hcz10_3, hfz10_0, hfz10_1, hfz10_2, hfz10_3⟩ := cl4 BK244
   go_wp2_with (first | ((with_reducible refine gate_callee (f := 59) rfl ?_); refine gL (some 17) Try.func59 #[.agg #[.bool a1_0, .int .i64 a1_1, .bool a1_2, .bool a1_3]] ?_; (with_reducible refine (spec_CondOk.calls a1_0 a1_1 a1_2 a1_3 false _ A5.out).mono ?_); rintro e w11 ⟨rfl, hb⟩; refine ⟨_, rfl, ?_⟩; replace BK244 := bb BK244 hb; replace HB := bs HB hb; (try clear hb)))
   go_meet
   case rel => exact ⟨_, (true), rv, H', om, bk BK244, bh HB⟩
 case rest =>
  clear HC3
  try clear hcz10_0 hcz10_1 hcz10_2 hcz10_3 hfz10_0 hfz10_1 hfz10_2 hfz10_3
  try clear hcz8_0 hcz8_1 hcz8_2 hcz8_3 hfz8_0 hfz8_1 hfz8_2 hfz8_3
  obtain ⟨kq, x23_2, rfl, HA, HJ2, BK244, HB⟩ := hcut
  cases kq with
  | zero => exact absurd HA.out (by simp [spec_LevelsBack.j0])
  | succ kj2 =>
   have H := HA.out
   clear HA
   simp only [spec_LevelsBack.j0] at H
   by_cases c12 : x23_2 = true
   ·subst c12
    rw [if_pos rfl] at H
    obtain ⟨y247, hy247⟩ : ∃ y_ : List Int, y_ = (([] : List Int)) := ⟨_, rfl⟩
    replace H : (some (y247, false)) = some (r1, r2) := by subst hy247; exact H
    have Ny247 := Aside0.mk hy247
    clear hy247
    simp only [Option.some.injEq, Prod.mk.injEq] at H
    obtain ⟨rfl, rfl⟩ := H
    go_wp2_with (first | ((with_reducible refine gate_dst (N := 24) rfl ?_); refine Kd.R_lit (Kd.int .i64) _ 3 ?hg (N := 24) ?hd (xs := ([] : List Int)) (inner := []) (ok := fun _ => True) (okp := fun _ => True) ?hr ?hp (fun _ hk => hk) trivial (Below.refl _ _) (Nat.le_refl _) (by simp) ?_; (case hd => rfl); (case hg => rfl); (case hr => first | (go_simp; done) | (go_simp; rfl)); (case hp => exact (Reps.none _ _)); intro v248 w13 ho14 hb hg_ hnew_; clear hg_ hnew_; (first | rw [← Ny247.out] at ho14 | (simp only [Int.reduceToNat] at ho14; rw [← Ny247.out] at ho14)); have HO249 := Aside0.mk (Kd.R_lower ho14 (below_size (bo HB))); replace BK244 := bb BK244 hb; replace HB := bs HB hb; clear hb ho14))
    go_ret2
    exact ⟨_, re, ro HO249.out, bo HB⟩
   ·replace c12 := Bool.eq_false_iff.mpr c12
    subst c12
    rw [if_neg nft] at H
    by_cases c15 : a1_3 = true
    ·subst c15
     rw [if_pos rfl] at H
     replace H := bnd H
     obtain ⟨⟨t250, t251⟩, A16, H⟩ := H
     dsimp only at H
     simp only [Option.some.injEq, Prod.mk.injEq] at H
     obtain ⟨rfl, rfl⟩ := H
     obtain ⟨hcz17_0, hcz17_1, hcz17_2, hcz17_3, hfz17_0, hfz17_1, hfz17_2, hfz17_3⟩ := cl4 BK244
     go_wp2_with (first | ((with_reducible refine gate_callee (f := 102) rfl ?_); refine gL (some 28) Try.func102 #[.int .i64 8, .slice A0 l0.length c0] ?_; (with_reducible refine (spec_Unscanned.calls kj2 8 _ _ l0 t250 t251 _ ?side1 ?side2 A16.out).mono ?_); (case side1 => exact ca (Kd.C_below HR0.out HB.out)); (case side2 => exact HC0.out); rintro e w18 ⟨v252, rfl, ho0, hb⟩; refine ⟨_, rfl, ?_⟩; have HO253 := Aside0.mk (Kd.R_lower ho0 (below_size (bo HB))); replace BK244 := bb BK244 hb; replace HB := bs HB hb; (try clear hb); (try clear ho0)))
     go_ret2
     exact ⟨_, re, ro HO253.out, bo HB⟩
    ·replace c15 := Bool.eq_false_iff.mpr c15
     subst c15
     rw [if_neg nft] at H
     by_cases c19 : a1_2 = true
     ·subst c19
      rw [if_pos rfl] at H
      replace H := bnd H
      obtain ⟨⟨t254, t255⟩, A20, H⟩ := H
      dsimp only at H
      have H' := Aside0.mk H
      clear H
      obtain ⟨hcz21_0, hcz21_1, hcz21_2, hcz21_3, hfz21_0, hfz21_1, hfz21_2, hfz21_3⟩ := cl4 BK244
      go_wp2_with (first | ((with_reducible refine gate_callee (f := 102) rfl ?_); refine gL (some 35) Try.func102 #[.int .i64 8, .slice A0 l0.length c0] ?_; (with_reducible refine (spec_Unscanned.calls kj2 8 _ _ l0 t254 t255 _ ?side1 ?side2 A20.out).mono ?_); (case side1 => exact ca (Kd.C_below HR0.out HB.out)); (case side2 => exact HC0.out); rintro e w22 ⟨v256, rfl, ho0, hb⟩; refine ⟨_, rfl, ?_⟩; have HO257 := Aside0.mk (Kd.R_lower ho0 (below_size (bo HB))); replace BK244 := bb BK244 hb; replace HB := bs HB hb; (try clear hb); (try clear ho0)))
      go_loopg [8] kj2 (fun kq v8 w' => ∃ (x6_2 : List Int) (x8_2 : Int), v8 = .int .i64 x8_2 ∧ Aside0 (spec_LevelsBack.l0 kq x6_2 x8_2 a1_0 a1_1 true false = some (r1, r2)) ∧ Aside0 (kq ≤ kj2) ∧ Aside0 (Kd.R (Kd.int .i64) 3 w' w.heap.size (fun _ => True) v256 x6_2) ∧ Aside0 (w'.heap[gb244]? = some (.cells #[.bool a1_0, .int .i64 a1_1, .bool true, .bool false] 50 (0, 0))) ∧ Aside0 (Below w.heap.size w w'))
      case atStart => exact ⟨(t254), (0), rv, H', ⟨Nat.le_refl _⟩, (ra HO257.out), bk BK244, bh HB⟩
      case round =>
       clear H'
       try clear hcz10_0 hcz10_1 hcz10_2 hcz10_3 hfz10_0 hfz10_1 hfz10_2 hfz10_3
       try clear hcz17_0 hcz17_1 hcz17_2 hcz17_3 hfz17_0 hfz17_1 hfz17_2 hfz17_3
       try clear hcz21_0 hcz21_1 hcz21_2 hcz21_3 hfz21_0 hfz21_1 hfz21_2 hfz21_3
       try clear hcz8_0 hcz8_1 hcz8_2 hcz8_3 hfz8_0 hfz8_1 hfz8_2 hfz8_3
       obtain ⟨x6_2, x8_2, rfl, HA, HK2, HO_6, BK244, HB⟩ := hrel
       cases gk with
       | zero => exact absurd HA.out (by simp [spec_LevelsBack.l0])
       | succ k2 =>
        have H := HA.out
        clear HA
        simp only [spec_LevelsBack.l0] at H
        by_cases c23 : x8_2 < 64
        ·rw [if_pos c23] at H
         have c23b0 := decide_eq_true c23
         clear c23
         by_cases c24 : 0 ≤ x8_2
         ·rw [if_pos c24] at H
          have c24b0 := decide_eq_true c24
          clear c24
          by_cases c25 : x8_2 < (x6_2.length : Int)
          ·rw [if_pos c25] at H
           have c25b0 := decide_eq_true c25
           clear c25
           replace H := bnd H
           obtain ⟨t259, A26, H⟩ := H
           obtain ⟨y260, hy260⟩ : ∃ y_ : List Int, y_ = (x6_2.set (x8_2 : Int).toNat t259) := ⟨_, rfl⟩
           replace H : (spec_LevelsBack.l0 k2 y260 (wrap64 (x8_2 + 1)) a1_0 a1_1 true false) = some (r1, r2) := by subst hy260; exact H
           have Ny260 := Aside0.mk hy260
           clear hy260
           have H' := Aside0.mk H
           clear H
           try go_wp2
           replace HO_6 := Aside0.mk (Kd.R_drew HO_6.out)
           replace BK244 := Aside0.mk (blk_drew BK244.out)
           replace HB := Aside0.mk (below_drew1 HB.out)
           obtain ⟨Ao29, co29, eo29⟩ := Kd.R_slice HO_6.out
           (first | subst eo29 | (injection eo29 with f1_ f2_ f3_; have f4_ := f1_.symm; have f5_ := f3_.symm; clear f1_ f2_ f3_; subst f4_; subst f5_))
           have p258 : 0 ≤ (x8_2 : Int) := od
           have q258 : x8_2 < (x6_2.length : Int) := od
           obtain ⟨ad258, e258, hx258_0⟩ := Kd.at_int (Kd.R_reads' HO_6.out).2.2 x8_2 p258 q258
           cases e258
           replace p258 := eq_true p258
           replace q258 := eq_true q258
           refine start_ (n := 11) (S := fun w' => w'.cell? ⟨gb244, 0, none⟩ = some (.bool a1_0) ∧ w'.cell? ⟨gb244, 1, none⟩ = some (.int .i64 a1_1) ∧ w'.cell? ⟨gb244, 2, none⟩ = some (.bool true) ∧ w'.cell? ⟨gb244, 3, none⟩ = some (.bool false) ∧ w'.cell? (ad258.add (x8_2).toNat) = some (.int .i64 (rd x6_2 x8_2))) (ds := [10]) (ba 11 0) (by kernel_rfl) rfl rfl ⟨bc BK244 0, bc BK244 1, bc BK244 2, bc BK244 3, hx258_0⟩ (fun hHeld => ?_); refine with_tabW spec_LevelsBack.tab10 spec_LevelsBack.bits10 (fun HT_ HW_ => ?_)
           generalize wr.drew = w28 at HO_6 BK244 HB hx258_0 hHeld ⊢
           refine pu 0 42 (ba 11 1) ?_
           refine pu 1 43 (ba 11 3) ?_
           refine pu 2 44 (ba 11 7) ?_
           refine pu 3 45 (ba 11 15) ?_
           refine pu 4 46 (ba 11 31) ?_
           refine pu 6 48 (ba 11 95) ?_
           refine tk 5 47 (ba 11 127) hHeld ?_
           refine tk 7 49 (ba 11 255) hHeld ?_
           refine on 8 50 (ba 11 511) (fun K hK => ?_)
           refine gS Try.func103 #[.int .i64 (rd x6_2 x8_2), .int .i64 a1_1] ?_
           with_reducible refine (spec_LargeBack.calls k2 (rd x6_2 x8_2) a1_1 t259 _ A26.out).mono ?_
           rintro e w' ⟨rfl, ⟨nd, rfl⟩⟩
           refine ⟨_, rfl, ?_⟩
           have p27 : 0 ≤ (x8_2 : Int) := od
           have q27 : (x8_2 : Int) < ((x6_2.length : Int) : Int) := od
           obtain ⟨go27, co27, eo27, gb27, gl27, cl27, HG27⟩ := Kd.R_form HO_6.out (by omega)
           (first | cases eo27 | (injection eo27 with ea_ en_ ec_; (first | subst ea_ | (injection ea_ with ea_; subst ea_)); subst ec_; clear en_))
           have GB27 := Aside0.mk gb27
           have GG27 := Aside0.mk HG27
           clear gb27 gl27 HG27
           (first | simp only [add_plain] at hx258_0 | skip)
           obtain ⟨hx27_0, hf27_0⟩ := Kd.R_celln 0 HO_6.out (x8_2 : Int) p27 q27
           replace p27 := eq_true p27
           replace q27 := eq_true q27
           have HP30 := Kd.R_putn HO_6.out (x8_2 : Int) t259
           rw [← Ny260.out] at HP30
           have HQ30 := Aside0.mk HP30
           clear HP30
           refine hK.out _ _ ⟨bc BK244 0, bc BK244 1, bc BK244 2, bc BK244 3, hHeld.2.2.2.2⟩ (fun hHeld => ?_)
           clear hK K
           refine nm ?_
           refine pu 9 51 (ba 11 1023) ?_
           refine last_ (i := 10) (N := none) (ba 11 2047) rfl rfl (one_of HT_.out (by kernel_rfl)) (by decide) (fun K hK => ?_)
           refine skip_ (w1 := ?_) (by rfl) rfl ?_ ?_
           rotate_left
           ·go_simp
            rfl
           refine hK.out _ _ ?_
           clear hK K
           refine done_ (done_of HT_.out (by kernel_rfl)) ?_
           try go_wp2
           go_roundg k2
           case measure => have := HJ2.out; have := HK2.out; omega
           case rel => exact ⟨(y260), (wrap64 (x8_2 + 1)), rv, H', ⟨by have := HJ2.out; have := HK2.out; omega⟩, (ra HQ30.out), ⟨by (with_reducible repeat (first | refine blk_drewN ?_ _ | refine blk_drew ?_ | refine blk_alloc ?_ _)); refine blk_far ?_ (by have h_ := Kd.R_ne HO_6.out BK244.out (by decide); intro e_; exact h_ (by rw [e_]; rfl)) _; (with_reducible repeat (first | refine blk_drewN ?_ _ | refine blk_drew ?_ | refine blk_alloc ?_ _)); exact BK244.out⟩, bh HB⟩
          ·rw [if_neg c25] at H
           exact absurd H (by simp)
         ·rw [if_neg c24] at H
          exact absurd H (by simp)
        ·rw [if_neg c23] at H
         have c23b0 := decide_eq_false c23
         clear c23
         replace H := bnd H
         obtain ⟨t261, A31, H⟩ := H
         simp only [Option.some.injEq, Prod.mk.injEq] at H
         obtain ⟨rfl, rfl⟩ := H
         obtain ⟨Ao32, co32, eo32⟩ := Kd.R_slice HO_6.out
         subst eo32
         go_wp2_with (first | ((with_reducible refine gate_callee (f := 104) rfl ?_); refine gL (some 53) Try.func104 #[.slice Ao32 x6_2.length co32] ?_; (with_reducible refine (spec_EightBack.calls k2 _ _ x6_2 t261 _ ?side1 ?side2 A31.out).mono ?_); (case side1 => exact ca ((Kd.R_reads' HO_6.out).2.2)); (case side2 => exact (Kd.R_reads' HO_6.out).2.1); rintro e w33 ⟨v262, rfl, ho0, hb⟩; refine ⟨_, rfl, ?_⟩; have HO263 := Aside0.mk (Kd.R_lower (Kd.R_new' ho0 (Kd.R_lt (ro HO_6.out))) (below_size (bo HB))); replace HO_6 := Aside0.mk (Kd.R_elder' (ro HO_6.out) (Kd.R_base ho0) hb); replace BK244 := bb BK244 hb; replace HB := bs HB hb; (try clear hb); (try clear ho0)))
         go_ret2
         exact ⟨_, re, ro (Kd.R_mono HO263.out (fun _ hk => trivial)), bo HB⟩
     ·replace c19 := Bool.eq_false_iff.mpr c19
      subst c19
      rw [if_neg nft] at H
      by_cases c34 : 64 ≤ 35184372088832
      ·rw [if_pos c34] at H
       have c34b0 := eq_true c34
       have c34b1 := decide_eq_true c34
       clear c34
       obtain ⟨y264, hy264⟩ : ∃ y_ : List Int, y_ = (List.replicate 64 0) := ⟨_, rfl⟩
       replace H : (spec_LevelsBack.l1 kj2 l0 y264 0 a1_0 a1_1 false false) = some (r1, r2) := by subst hy264; exact H
       have Ny264 := Aside0.mk hy264
       clear hy264
       have H' := Aside0.mk H
       clear H
       obtain ⟨hcz35_0, hcz35_1, hcz35_2, hcz35_3, hfz35_0, hfz35_1, hfz35_2, hfz35_3⟩ := cl4 BK244
       go_wp2_with (first | ((with_reducible refine gate_dst (N := 54) rfl ?_); refine Kd.R_make (Kd.int .i64) _ 3 rfl (N := 54) rfl 35 _ _ rfl 64 rfl rfl Try.underlying35 (.int .i64 0) 8 info3 rfl (by decide) (by omega) 0 (ok := fun _ => True) (okp := fun _ => True) rfl (fun _ hk => hk) trivial (by omega) (by omega) (Below.refl _ _) (Nat.le_refl _) ?_; intro v265 w36 ho37 hb hg_ hnew_; clear hg_ hnew_; (first | rw [← Ny264.out] at ho37 | (simp only [Int.reduceToNat] at ho37; rw [← Ny264.out] at ho37)); have HO266 := Aside0.mk (Kd.R_lower ho37 (below_size (bo HB))); replace BK244 := bb BK244 hb; replace HB := bs HB hb; clear hb ho37))
       go_loopg [10] kj2 (fun kq v10 w' => ∃ (x9_2 : List Int) (x10_2 : Int), v10 = .int .i64 x10_2 ∧ Aside0 (spec_LevelsBack.l1 kq l0 x9_2 x10_2 a1_0 a1_1 false false = some (r1, r2)) ∧ Aside0 (kq ≤ kj2) ∧ Aside0 (Kd.R (Kd.int .i64) 3 w' w.heap.size (fun _ => True) v265 x9_2) ∧ Aside0 (w'.heap[gb244]? = some (.cells #[.bool a1_0, .int .i64 a1_1, .bool false, .bool false] 50 (0, 0))) ∧ Aside0 (Below w.heap.size w w'))
       case atStart => exact ⟨(y264), (0), rv, H', ⟨Nat.le_refl _⟩, (ra HO266.out), bk BK244, bh HB⟩
       case round =>
        clear H'
        try clear q2
        try clear hx2
        try clear hf2
        try clear q25
        try clear hx25
        try clear q27
        try clear hx27
        try clear hf27
        try clear hcz10_0 hcz10_1 hcz10_2 hcz10_3 hfz10_0 hfz10_1 hfz10_2 hfz10_3
        try clear hcz17_0 hcz17_1 hcz17_2 hcz17_3 hfz17_0 hfz17_1 hfz17_2 hfz17_3
        try clear hcz21_0 hcz21_1 hcz21_2 hcz21_3 hfz21_0 hfz21_1 hfz21_2 hfz21_3
        try clear hcz35_0 hcz35_1 hcz35_2 hcz35_3 hfz35_0 hfz35_1 hfz35_2 hfz35_3
        try clear hcz8_0 hcz8_1 hcz8_2 hcz8_3 hfz8_0 hfz8_1 hfz8_2 hfz8_3
        try clear hx258_0
        try clear hx27_0
        try clear q258
        try clear q27
        obtain ⟨x9_2, x10_2, rfl, HA, HK2, HO_9, BK244, HB⟩ := hrel
        cases gk with
        | zero => exact absurd HA.out (by simp [spec_LevelsBack.l1])
        | succ k2 =>
         have H := HA.out
         clear HA
         simp only [spec_LevelsBack.l1] at H
         by_cases c38 : x10_2 < 4
         ·rw [if_pos c38] at H
          have c38b0 := decide_eq_true c38
          clear c38
          obtain ⟨ji39, hji39⟩ : ∃ j_ : Int, (wrap64 (16 * x10_2)) = j_ := ⟨_, rfl⟩
          replace H : (if 0 ≤ (ji39) then (if (ji39) ≤ (wrap64 ((ji39) + 16)) then (if (wrap64 ((ji39) + 16)) ≤ (l0.length : Int) then ((spec_Unscanned.f k2 4 ((l0.take ((wrap64 ((ji39) + 16)) : Int).toNat).drop ((ji39) : Int).toNat)).bind fun bt268 => (spec_LevelsBack.l2 k2 l0 x9_2 x10_2 bt268.1 0 a1_0 a1_1 false false)) else (none)) else (none)) else (none)) = some (r1, r2) := by first | (rw [hji39] at H; exact H) | (simp only [hji39] at H ⊢; exact H)
          have hji39w : (IntKind.i64.wrap (16 * x10_2)) = ji39 := (i64_w _).trans hji39
          by_cases c40 : 0 ≤ (ji39)
          ·rw [if_pos c40] at H
           have c40b0 := eq_true c40
           have c40b1 := decide_eq_true c40
           clear c40
           by_cases c41 : (ji39) ≤ (wrap64 ((ji39) + 16))
           ·rw [if_pos c41] at H
            have c41b0 := eq_true c41
            have c41b1 := decide_eq_true c41
            by_cases c42 : (wrap64 ((ji39) + 16)) ≤ (l0.length : Int)
            ·rw [if_pos c42] at H
             have c42b0 := eq_true c42
             have c42b1 := decide_eq_true c42
             replace H := bnd H
             obtain ⟨⟨t268, t269⟩, A43, H⟩ := H
             dsimp only at H
             have H' := Aside0.mk H
             clear H
             obtain ⟨i044, hi044, _, hsz44, _⟩ := info_parts info3
             obtain ⟨A44, hcut44, hA44, hC44⟩ := print_mid_of (P := Try.prog) (Value.int .i64) 0 35 3 .i64 .i64 Try.underlying35 hi044 hsz44 A0 c0 l0 (ji39) (wrap64 ((ji39) + 16)) (od) (by first | omega | exact od) (od) HC0.out
             have HR267 := Aside0.mk (Kd.C_of_reads (h1 := fun _ => rfl) (hA44 _ (Kd.reads_of_C HR0.out)))
             have HC267 := Aside0.mk hC44
             clear hA44 hC44 hi044 hsz44
             go_wp2_with (first | ((with_reducible refine gate_callee (f := 102) rfl ?_); refine gL (some 67) Try.func102 #[.int .i64 4, .slice A44 ((l0.take ((wrap64 ((ji39) + 16)) : Int).toNat).drop ((ji39) : Int).toNat).length (c0 - (ji39).toNat)] ?_ (hargs := (by (try simp only [List.map_toArray, List.map_cons, List.map_nil]); first | done | (rw [show ((l0.take ((wrap64 ((ji39) + 16)) : Int).toNat).drop ((ji39) : Int).toNat).length = ((wrap64 ((ji39) + 16)).toNat - (ji39).toNat) from (by rw [List.length_drop, List.length_take]; have h_ : ((wrap64 ((ji39) + 16)) : Int) ≤ (l0.length : Int) := od; omega)] <;> rfl) | (simp only [hji39]; rfl) | rfl | (simp only [List.length_drop, List.length_take]; rfl))); (with_reducible refine (spec_Unscanned.calls k2 4 _ _ ((l0.take ((wrap64 ((ji39) + 16)) : Int).toNat).drop ((ji39) : Int).toNat) t268 t269 _ ?side1 ?side2 A43.out).mono ?_); (case side1 => exact ca (Kd.C_below HR267.out HB.out)); (case side2 => exact HC267.out); rintro e w45 ⟨v270, rfl, ho0, hb⟩; refine ⟨_, rfl, ?_⟩; have HO271 := Aside0.mk (Kd.R_lower (Kd.R_new' ho0 (Kd.R_lt (ro HO_9.out))) (below_size (bo HB))); replace HO_9 := Aside0.mk (Kd.R_elder' (ro HO_9.out) (Kd.R_base ho0) hb); replace BK244 := bb BK244 hb; replace HB := bs HB hb; (try clear hb); (try clear ho0)))
             go_loopg [13] k2 (fun kq v13 w' => ∃ (x11_3 : List Int) (x13_3 : Int), v13 = .int .i64 x13_3 ∧ Aside0 (spec_LevelsBack.l2 kq l0 x9_2 x10_2 x11_3 x13_3 a1_0 a1_1 false false = some (r1, r2)) ∧ Aside0 (kq ≤ k2) ∧ Aside0 (Kd.R (Kd.int .i64) 3 w' w.heap.size (fun k_ => some k_ ≠ (v270 : Value).ownBlock) v265 x9_2) ∧ Aside0 (Kd.R (Kd.int .i64) 3 w' w.heap.size (fun k_ => some k_ ≠ (v265 : Value).ownBlock) v270 x11_3) ∧ Aside0 (w'.heap[gb244]? = some (.cells #[.bool a1_0, .int .i64 a1_1, .bool false, .bool false] 50 (0, 0))) ∧ Aside0 (Below w.heap.size w w'))
             case atStart => exact ⟨(t268), (0), rv, H', ⟨Nat.le_refl _⟩, (ra (Kd.R_mono HO_9.out (fun _ hk => hk.2))), (ra (Kd.R_mono HO271.out (fun _ hk => hk.2))), bk BK244, bh HB⟩
             case round =>
              clear H'
              try clear q2
              try clear hx2
              try clear hf2
              try clear q25
              try clear hx25
              try clear q27
              try clear hx27
              try clear hf27
              try clear hcz10_0 hcz10_1 hcz10_2 hcz10_3 hfz10_0 hfz10_1 hfz10_2 hfz10_3
              try clear hcz17_0 hcz17_1 hcz17_2 hcz17_3 hfz17_0 hfz17_1 hfz17_2 hfz17_3
              try clear hcz21_0 hcz21_1 hcz21_2 hcz21_3 hfz21_0 hfz21_1 hfz21_2 hfz21_3
              try clear hcz35_0 hcz35_1 hcz35_2 hcz35_3 hfz35_0 hfz35_1 hfz35_2 hfz35_3
              try clear hcz8_0 hcz8_1 hcz8_2 hcz8_3 hfz8_0 hfz8_1 hfz8_2 hfz8_3
              try clear hx258_0
              try clear hx27_0
              try clear q2
              try clear q25
              try clear q258
              try clear q27
              obtain ⟨x11_3, x13_3, rfl, HA, HK3, HO_9, HO_11, BK244, HB⟩ := hrel
              cases gk with
              | zero => exact absurd HA.out (by simp [spec_LevelsBack.l2])
              | succ k3 =>
               have H := HA.out
               clear HA
               simp only [spec_LevelsBack.l2] at H
               by_cases c46 : x13_3 < 16
               ·rw [if_pos c46] at H
                have c46b0 := decide_eq_true c46
                clear c46
                by_cases c47 : 0 ≤ x13_3
                ·rw [if_pos c47] at H
                 have c47b0 := decide_eq_true c47
                 clear c47
                 by_cases c48 : x13_3 < (x11_3.length : Int)
                 ·rw [if_pos c48] at H
                  have c48b0 := decide_eq_true c48
                  clear c48
                  replace H := bnd H
                  obtain ⟨t273, A49, H⟩ := H
                  obtain ⟨y274, hy274⟩ : ∃ y_ : List Int, y_ = (x11_3.set (x13_3 : Int).toNat t273) := ⟨_, rfl⟩
                  replace H : (spec_LevelsBack.l2 k3 l0 x9_2 x10_2 y274 (wrap64 (x13_3 + 1)) a1_0 a1_1 false false) = some (r1, r2) := by subst hy274; exact H
                  have Ny274 := Aside0.mk hy274
                  clear hy274
                  have H' := Aside0.mk H
                  clear H
                  try go_wp2
                  replace HO_9 := Aside0.mk (Kd.R_drew HO_9.out)
                  replace HO_11 := Aside0.mk (Kd.R_drew HO_11.out)
                  replace BK244 := Aside0.mk (blk_drew BK244.out)
                  replace HB := Aside0.mk (below_drew1 HB.out)
                  obtain ⟨Ao52, co52, eo52⟩ := Kd.R_slice HO_11.out
                  (first | subst eo52 | (injection eo52 with f1_ f2_ f3_; have f4_ := f1_.symm; have f5_ := f3_.symm; clear f1_ f2_ f3_; subst f4_; subst f5_))
                  have p272 : 0 ≤ (x13_3 : Int) := od
                  have q272 : x13_3 < (x11_3.length : Int) := od
                  obtain ⟨ad272, e272, hx272_0⟩ := Kd.at_int (Kd.R_reads' HO_11.out).2.2 x13_3 p272 q272
                  cases e272
                  replace p272 := eq_true p272
                  replace q272 := eq_true q272
                  refine start_ (n := 12) (S := fun w' => w'.cell? ⟨gb244, 0, none⟩ = some (.bool a1_0) ∧ w'.cell? ⟨gb244, 1, none⟩ = some (.int .i64 a1_1) ∧ w'.cell? ⟨gb244, 2, none⟩ = some (.bool false) ∧ w'.cell? ⟨gb244, 3, none⟩ = some (.bool false) ∧ w'.cell? (ad272.add (x13_3).toNat) = some (.int .i64 (rd x11_3 x13_3))) (ds := [11]) (ba 12 0) (by kernel_rfl) rfl rfl ⟨bc BK244 0, bc BK244 1, bc BK244 2, bc BK244 3, hx272_0⟩ (fun hHeld => ?_); refine with_tabW spec_LevelsBack.tab20 spec_LevelsBack.bits20 (fun HT_ HW_ => ?_)
                  generalize wr.drew = w51 at HO_9 HO_11 BK244 HB hx272_0 hHeld ⊢
                  refine pu 0 74 (ba 12 1) ?_
                  refine pu 1 75 (ba 12 3) ?_
                  refine pu 2 76 (ba 12 7) ?_
                  refine pu 3 77 (ba 12 15) ?_
                  refine pu 4 78 (ba 12 31) ?_
                  refine pu 6 80 (ba 12 95) ?_
                  refine pu 8 82 (ba 12 351) ?_
                  refine tk 5 79 (ba 12 383) hHeld ?_
                  refine tk 7 81 (ba 12 511) hHeld ?_
                  refine on 9 83 (ba 12 1023) (fun K hK => ?_)
                  refine gS Try.func105 #[.int .i64 (rd x11_3 x13_3), .int .i64 a1_1, .int .i64 x13_3] ?_
                  with_reducible refine (spec_SmallBack.calls k3 (rd x11_3 x13_3) a1_1 x13_3 t273 _ A49.out).mono ?_
                  rintro e w' ⟨rfl, ⟨nd, rfl⟩⟩
                  refine ⟨_, rfl, ?_⟩
                  have p50 : 0 ≤ (x13_3 : Int) := od
                  have q50 : (x13_3 : Int) < ((x11_3.length : Int) : Int) := od
                  obtain ⟨go50, co50, eo50, gb50, gl50, cl50, HG50⟩ := Kd.R_form HO_11.out (by omega)
                  (first | cases eo50 | (injection eo50 with ea_ en_ ec_; (first | subst ea_ | (injection ea_ with ea_; subst ea_)); subst ec_; clear en_))
                  have GB50 := Aside0.mk gb50
                  have GG50 := Aside0.mk HG50
                  clear gb50 gl50 HG50
                  (first | simp only [add_plain] at hx272_0 | skip)
                  obtain ⟨hx50_0, hf50_0⟩ := Kd.R_celln 0 HO_11.out (x13_3 : Int) p50 q50
                  replace p50 := eq_true p50
                  replace q50 := eq_true q50
                  have HP53 := Kd.R_putn HO_11.out (x13_3 : Int) t273
                  rw [← Ny274.out] at HP53
                  have HQ53 := Aside0.mk HP53
                  clear HP53
                  refine hK.out _ _ ⟨bc BK244 0, bc BK244 1, bc BK244 2, bc BK244 3, hHeld.2.2.2.2⟩ (fun hHeld => ?_)
                  clear hK K
                  refine nm ?_
                  refine pu 10 84 (ba 12 2047) ?_
                  refine last_ (i := 11) (N := none) (ba 12 4095) rfl rfl (one_of HT_.out (by kernel_rfl)) (by decide) (fun K hK => ?_)
                  refine skip_ (w1 := ?_) (by rfl) rfl ?_ ?_
                  rotate_left
                  ·go_simp
                   rfl
                  refine hK.out _ _ ?_
                  clear hK K
                  refine done_ (done_of HT_.out (by kernel_rfl)) ?_
                  try go_wp2
                  go_roundg k3
                  case measure => have := HJ2.out; have := HK2.out; have := HK3.out; omega
                  case rel => exact ⟨(y274), (wrap64 (x13_3 + 1)), rv, H', ⟨by have := HJ2.out; have := HK2.out; have := HK3.out; omega⟩, (ra (Kd.R_mono (Kd.R_far (p := ⟨go50, (x13_3 : Int).toNat, none⟩) (Kd.R_mono HO_9.out (fun k_ hk => (⟨hk, fun e_ => hk (by rw [e_]; rfl)⟩ : _ ∧ k_ ≠ go50))) (fun _ hk => hk.2) (.int .i64 t273)) (fun _ hk => hk.1))), (ra HQ53.out), ⟨by (with_reducible repeat (first | refine blk_drewN ?_ _ | refine blk_drew ?_ | refine blk_alloc ?_ _)); refine blk_far ?_ (by have h_ := Kd.R_ne HO_11.out BK244.out (by decide); intro e_; exact h_ (by rw [e_]; rfl)) _; (with_reducible repeat (first | refine blk_drewN ?_ _ | refine blk_drew ?_ | refine blk_alloc ?_ _)); exact BK244.out⟩, bh HB⟩
                 ·rw [if_neg c48] at H
                  exact absurd H (by simp)
                ·rw [if_neg c47] at H
                 exact absurd H (by simp)
               ·rw [if_neg c46] at H
                have c46b0 := decide_eq_false c46
                clear c46
                replace H := bnd H
                obtain ⟨t275, A54, H⟩ := H
                have H' := Aside0.mk H
                clear H
                obtain ⟨Ao55, co55, eo55⟩ := Kd.R_slice HO_11.out
                subst eo55
                go_wp2_with (first | ((with_reducible refine gate_callee (f := 106) rfl ?_); refine gL (some 86) Try.func106 #[.slice Ao55 x11_3.length co55] ?_; (with_reducible refine (spec_FourBack.calls k3 _ _ x11_3 t275 _ ?side1 ?side2 A54.out).mono ?_); (case side1 => exact ca ((Kd.R_reads' HO_11.out).2.2)); (case side2 => exact (Kd.R_reads' HO_11.out).2.1); rintro e w56 ⟨v276, rfl, ho0, hb⟩; refine ⟨_, rfl, ?_⟩; have HO277 := Aside0.mk (Kd.R_lower (Kd.R_new' (Kd.R_new' ho0 (Kd.R_lt (ro HO_9.out))) (Kd.R_lt (ro HO_11.out))) (below_size (bo HB))); replace HO_9 := Aside0.mk (Kd.R_elder' (ro HO_9.out) (Kd.R_base ho0) hb); replace HO_11 := Aside0.mk (Kd.R_elder' (ro HO_11.out) (Kd.R_base ho0) hb); replace BK244 := bb BK244 hb; replace HB := bs HB hb; (try clear hb); (try clear ho0)))
                go_loopg [15] k3 (fun kq v15 w' => ∃ (x9_4 : List Int) (x15_4 : Int), v15 = .int .i64 x15_4 ∧ Aside0 (spec_LevelsBack.l3 kq l0 x9_4 x10_2 t275 x15_4 a1_0 a1_1 false false = some (r1, r2)) ∧ Aside0 (kq ≤ k3) ∧ Aside0 (Kd.R (Kd.int .i64) 3 w' w.heap.size (fun k_ => some k_ ≠ (v276 : Value).ownBlock) v265 x9_4) ∧ Aside0 (Kd.R (Kd.int .i64) 3 w' w.heap.size (fun k_ => some k_ ≠ (v265 : Value).ownBlock) v276 t275) ∧ Aside0 (w'.heap[gb244]? = some (.cells #[.bool a1_0, .int .i64 a1_1, .bool false, .bool false] 50 (0, 0))) ∧ Aside0 (Below w.heap.size w w'))
                case atStart => exact ⟨(x9_2), (0), rv, H', ⟨Nat.le_refl _⟩, (ra (Kd.R_mono HO_9.out (fun _ hk => hk.2))), (ra (Kd.R_mono HO277.out (fun _ hk => hk.1.2))), bk BK244, bh HB⟩
                case round =>
                 clear H'
                 try clear q2
                 try clear hx2
                 try clear hf2
                 try clear q5
                 try clear hx5
                 try clear hf5
                 try clear q25
                 try clear hx25
                 try clear q27
                 try clear hx27
                 try clear hf27
                 try clear q50
                 try clear hx50
                 try clear hf50
                 try clear hcz10_0 hcz10_1 hcz10_2 hcz10_3 hfz10_0 hfz10_1 hfz10_2 hfz10_3
                 try clear hcz17_0 hcz17_1 hcz17_2 hcz17_3 hfz17_0 hfz17_1 hfz17_2 hfz17_3
                 try clear hcz21_0 hcz21_1 hcz21_2 hcz21_3 hfz21_0 hfz21_1 hfz21_2 hfz21_3
                 try clear hcz35_0 hcz35_1 hcz35_2 hcz35_3 hfz35_0 hfz35_1 hfz35_2 hfz35_3
                 try clear hcz8_0 hcz8_1 hcz8_2 hcz8_3 hfz8_0 hfz8_1 hfz8_2 hfz8_3
                 try clear hx258_0
                 try clear hx272_0
                 try clear hx27_0
                 try clear hx50_0
                 try clear q2
                 try clear q25
                 try clear q258
                 try clear q27
                 try clear q272
                 try clear q50
                 obtain ⟨x9_4, x15_4, rfl, HA, HK4, HO_9, HO_14, BK244, HB⟩ := hrel
                 cases gk with
                 | zero => exact absurd HA.out (by simp [spec_LevelsBack.l3])
                 | succ k4 =>
                  have H := HA.out
                  clear HA
                  simp only [spec_LevelsBack.l3] at H
                  by_cases c57 : x15_4 < 16
                  ·rw [if_pos c57] at H
                   have c57b0 := decide_eq_true c57
                   clear c57
                   by_cases c58 : 0 ≤ x15_4
                   ·rw [if_pos c58] at H
                    have c58b0 := decide_eq_true c58
                    clear c58
                    by_cases c59 : x15_4 < (t275.length : Int)
                    ·rw [if_pos c59] at H
                     have c59b0 := decide_eq_true c59
                     clear c59
                     obtain ⟨ji60, hji60⟩ : ∃ j_ : Int, (wrap64 ((wrap64 ((wrap64 (8 * (wrap64 ((wrap64 ((wrap64 (Int.tdiv x10_2 2)) * 4)) + (wrap64 (Int.tdiv x15_4 4)))))) + (wrap64 ((Int.tmod x10_2 2) * 4)))) + (Int.tmod x15_4 4))) = j_ := ⟨_, rfl⟩
                     replace H : (if 0 ≤ (ji60) then (if (ji60) < (x9_4.length : Int) then (spec_LevelsBack.l3 k4 l0 (x9_4.set ((ji60) : Int).toNat (rd t275 x15_4)) x10_2 t275 (wrap64 (x15_4 + 1)) a1_0 a1_1 false false) else (none)) else (none)) = some (r1, r2) := by first | (rw [hji60] at H; exact H) | (simp only [hji60] at H ⊢; exact H)
                     have hji60w : (IntKind.i64.wrap ((wrap64 ((wrap64 (8 * (wrap64 ((wrap64 ((wrap64 (Int.tdiv x10_2 2)) * 4)) + (wrap64 (Int.tdiv x15_4 4)))))) + (wrap64 ((Int.tmod x10_2 2) * 4)))) + (Int.tmod x15_4 4))) = ji60 := (i64_w _).trans hji60
                     by_cases c61 : 0 ≤ (ji60)
                     ·rw [if_pos c61] at H
                      have c61b0 := decide_eq_true c61
                      clear c61
                      by_cases c62 : (ji60) < (x9_4.length : Int)
                      ·rw [if_pos c62] at H
                       have c62b0 := decide_eq_true c62
                       clear c62
                       obtain ⟨y279, hy279⟩ : ∃ y_ : List Int, y_ = (x9_4.set ((ji60) : Int).toNat (rd t275 x15_4)) := ⟨_, rfl⟩
                       replace H : (spec_LevelsBack.l3 k4 l0 y279 x10_2 t275 (wrap64 (x15_4 + 1)) a1_0 a1_1 false false) = some (r1, r2) := by subst hy279; exact H
                       have Ny279 := Aside0.mk hy279
                       clear hy279
                       have H' := Aside0.mk H
                       clear H
                       obtain ⟨Ao64, co64, eo64⟩ := Kd.R_slice HO_14.out
                       subst eo64
                       have p278 : 0 ≤ (x15_4 : Int) := od
                       have q278 : x15_4 < (t275.length : Int) := od
                       obtain ⟨ad278, e278, hx278_0⟩ := Kd.at_int (Kd.R_reads' HO_14.out).2.2 x15_4 p278 q278
                       cases e278
                       replace p278 := eq_true p278
                       replace q278 := eq_true q278
                       have p63 : 0 ≤ ((ji60) : Int) := od
                       have q63 : ((ji60) : Int) < ((x9_4.length : Int) : Int) := od
                       obtain ⟨go63, co63, eo63, gb63, gl63, cl63, HG63⟩ := Kd.R_form HO_9.out (by omega)
                       (first | cases eo63 | (injection eo63 with ea_ en_ ec_; (first | subst ea_ | (injection ea_ with ea_; subst ea_)); subst ec_; clear en_))
                       have GB63 := Aside0.mk gb63
                       have GG63 := Aside0.mk HG63
                       clear gb63 gl63 HG63
                       obtain ⟨hx63_0, hf63_0⟩ := Kd.R_celln 0 HO_9.out ((ji60) : Int) p63 q63
                       replace p63 := eq_true p63
                       replace q63 := eq_true q63
                       have HP65 := Kd.R_putg HO_9.out ((ji60) : Int) (rd t275 x15_4)
                       go_wp2_with (first | ((with_reducible refine gate_store (t := 3) (p := 110) rfl ?_); refine store_event (t := 3) (p := 110) (v := ?vo_w66) (w1 := (wr.setCell ⟨go63, ((ji60) : Int).toNat, none⟩ (.int .i64 (rd t275 x15_4)))) ?hg ?ho ?hn ?hr ?_; (case ho => rfl); (case hg => rfl); (case hn => rfl); (case hr => first | (go_simp; done) | (go_simp; rfl)); intro w66 hw; have hg : wr.grownBy w66 (some go63) := (by rw [hw]; exact HP65.2); have hp_ : Kd.R (Kd.int .i64) 3 w66 w.heap.size (fun k_ => some k_ ≠ (.slice (some ad278) t275.length co64 : Value).ownBlock) (.slice (some ⟨go63, 0, none⟩) x9_4.length co63) y279 := (by rw [hw, Ny279.out]; exact HP65.1); clear HP65; replace HO_14 := Aside0.mk (Kd.R_after (v := (.slice (some ⟨go63, 0, none⟩) x9_4.length co63)) (v1 := (.slice (some ⟨go63, 0, none⟩) x9_4.length co63)) (ok := (fun _ => True)) (ro (Kd.R_mono HO_14.out (fun _ hk => ⟨trivial, hk⟩))) hg (.inl rfl)); replace BK244 := Aside0.mk (blk_grown (bt BK244) hg (Kd.R_ne HO_9.out BK244.out (by decide))); replace HO_9 := Aside0.mk (hp_); replace HB := Aside0.mk ((by rw [hw]; exact below_set (HB.out) GB63.out : Below w.heap.size w w66)); clear hg hw hp_))
                       go_roundg k4
                       case measure => have := HJ2.out; have := HK2.out; have := HK3.out; have := HK4.out; omega
                       case rel => exact ⟨(y279), (wrap64 (x15_4 + 1)), rv, H', ⟨by have := HJ2.out; have := HK2.out; have := HK3.out; have := HK4.out; omega⟩, (ra HO_9.out), (ra (Kd.R_mono HO_14.out (fun _ hk => hk.2))), bk BK244, bh HB⟩
                      ·rw [if_neg c62] at H
                       exact absurd H (by simp)
                     ·rw [if_neg c61] at H
                      exact absurd H (by simp)
                    ·rw [if_neg c59] at H
                     exact absurd H (by simp)
                   ·rw [if_neg c58] at H
                    exact absurd H (by simp)
                  ·rw [if_neg c57] at H
                   have c57b0 := decide_eq_false c57
                   clear c57
                   have H' := Aside0.mk H
                   clear H
                   go_wp2
                   go_roundg k4
                   case measure => have := HJ2.out; have := HK2.out; have := HK3.out; have := HK4.out; omega
                   case rel => exact ⟨(x9_4), (wrap64 (x10_2 + 1)), rv, H', ⟨by have := HJ2.out; have := HK2.out; have := HK3.out; have := HK4.out; omega⟩, (ra (Kd.R_mono HO_9.out (fun _ hk => trivial))), bk BK244, bh HB⟩
            ·rw [if_neg c42] at H
             exact absurd H (by simp)
           ·rw [if_neg c41] at H
            exact absurd H (by simp)
          ·rw [if_neg c40] at H
           exact absurd H (by simp)
         ·rw [if_neg c38] at H
          have c38b0 := decide_eq_false c38
          clear c38
          simp only [Option.some.injEq, Prod.mk.injEq] at H
          obtain ⟨rfl, rfl⟩ := H
          go_wp2
          go_ret2
          exact ⟨_, re, ro HO_9.out, bo HB⟩
      ·rw [if_neg c34] at H
       exact absurd H (by simp)

end Go.Proofs.Ytnaccgommclhaaa.QFnExactSquareDots
