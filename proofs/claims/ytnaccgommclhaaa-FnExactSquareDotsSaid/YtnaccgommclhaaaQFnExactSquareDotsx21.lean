/- What the law reaches, as plain functions, each with the proof that its call comes to its answer: written by a program for this claim. -/
import Derived.Test.YtnaccgommclhaaaQFnExactSquareDotsx0
import Derived.Test.YtnaccgommclhaaaQFnExactSquareDotsx14
import Derived.Test.YtnaccgommclhaaaQFnExactSquareDotsx16
import Derived.Test.YtnaccgommclhaaaQFnExactSquareDotsx18
import Derived.Test.YtnaccgommclhaaaQFnExactSquareDotsx19
import Derived.Test.YtnaccgommclhaaaQFnExactSquareDotsx20
import Derived.Test.YtnaccgommclhaaaUFnExactSquareDotsV5
namespace Go.Proofs.Ytnaccgommclhaaa.QFnExactSquareDots
open Go.RowKit Go.Proofs.YtnaccgommclhaaaW.PrintWords Go.Proofs.YtnaccgommclhaaaW.PrintLast Go.Proofs.YtnaccgommclhaaaW.PrintMore Go.Proofs.YtnaccgommclhaaaV
attribute [local go_sem] max2_int min2_int max_two min_two max_three min_three max_four min_four   -- for this text's walks alone
set_option linter.unusedVariables false
set_option linter.unusedSimpArgs false
set_option maxHeartbeats 8000000
set_option maxRecDepth 100000

mutual
def impl_LevelsBack.j0 : Nat → List Int → Bool → Bool → Int → Bool → Bool → Option (List Int × Bool)
 | 0, _, _, _, _, _, _ => none
 | k + 1, x0, x26, x495000, x495001, x495002, x495003 => if x26 = true then (some ((([] : List Int)), false)) else (if x495003 = true then ((impl_Unscanned.f k 8 x0).bind fun bt500 => (some (bt500.1, bt500.2))) else (if x495002 = true then ((impl_Unscanned.f k 8 x0).bind fun bt504 => (impl_LevelsBack.l0 k bt504.1 (bt504.1.length : Int) 0 x495000 x495001 x495002 x495003)) else (if 64 ≤ 35184372088832 then (impl_LevelsBack.l1 k x0 (List.replicate 64 0) 0 x495000 x495001 x495002 x495003) else (none))))
def impl_LevelsBack.l0 : Nat → List Int → Int → Int → Bool → Int → Bool → Bool → Option (List Int × Bool)
 | 0, _, _, _, _, _, _, _ => none
 | k + 1, x6, x42, x43, x495000, x495001, x495002, x495003 => if x43 < x42 then (if 0 ≤ x43 then (if x43 < (x6.length : Int) then ((impl_LargeBack.f (rd x6 x43) x495001).bind fun t509 => (impl_LevelsBack.l0 k (x6.set (x43 : Int).toNat t509) x42 (wrap64 (x43 + 1)) x495000 x495001 x495002 x495003)) else (none)) else (none)) else ((impl_EightBack.f k x6).bind fun t511 => (some (t511, true)))
def impl_LevelsBack.l1 : Nat → List Int → List Int → Int → Bool → Int → Bool → Bool → Option (List Int × Bool)
 | 0, _, _, _, _, _, _, _ => none
 | k + 1, x0, x10, x59, x495000, x495001, x495002, x495003 => if x59 < 4 then (if 0 ≤ (wrap64 (16 * x59)) then (if (wrap64 (16 * x59)) ≤ (wrap64 ((wrap64 (16 * x59)) + 16)) then (if (wrap64 ((wrap64 (16 * x59)) + 16)) ≤ (x0.length : Int) then ((impl_Unscanned.f k 4 ((x0.take ((wrap64 ((wrap64 (16 * x59)) + 16)) : Int).toNat).drop ((wrap64 (16 * x59)) : Int).toNat)).bind fun bt518 => (impl_LevelsBack.l2 k x0 x10 x59 bt518.1 x59 (bt518.1.length : Int) 0 x495000 x495001 x495002 x495003)) else (none)) else (none)) else (none)) else (some (x10, true))
def impl_LevelsBack.l2 : Nat → List Int → List Int → Int → List Int → Int → Int → Int → Bool → Int → Bool → Bool → Option (List Int × Bool)
 | 0, _, _, _, _, _, _, _, _, _, _, _ => none
 | k + 1, x0, x10, x11, x12, x59, x74, x75, x495000, x495001, x495002, x495003 => if x75 < x74 then (if 0 ≤ x75 then (if x75 < (x12.length : Int) then ((impl_SmallBack.f k (rd x12 x75) x495001 x75).bind fun t523 => (impl_LevelsBack.l2 k x0 x10 x11 (x12.set (x75 : Int).toNat t523) x59 x74 (wrap64 (x75 + 1)) x495000 x495001 x495002 x495003)) else (none)) else (none)) else ((impl_FourBack.f k x12).bind fun t525 => ((impl_quarter.f k x11).bind fun t528 => (impl_LevelsBack.l3 k x0 x10 t525 x59 t528 (t528.length : Int) 0 x495000 x495001 x495002 x495003)))
def impl_LevelsBack.l3 : Nat → List Int → List Int → List Int → Int → List Int → Int → Int → Bool → Int → Bool → Bool → Option (List Int × Bool)
 | 0, _, _, _, _, _, _, _, _, _, _, _ => none
 | k + 1, x0, x10, x16, x59, x92, x93, x94, x495000, x495001, x495002, x495003 => if x94 < x93 then (if 0 ≤ x94 then (if x94 < (x92.length : Int) then (if x94 < (x16.length : Int) then (if 0 ≤ (rd x92 x94) then (if (rd x92 x94) < (x10.length : Int) then (impl_LevelsBack.l3 k x0 (x10.set ((rd x92 x94) : Int).toNat (rd x16 x94)) x16 x59 x92 x93 (wrap64 (x94 + 1)) x495000 x495001 x495002 x495003) else (none)) else (none)) else (none)) else (none)) else (none)) else (impl_LevelsBack.l1 k x0 x10 (wrap64 (x59 + 1)) x495000 x495001 x495002 x495003)
end
def impl_LevelsBack.f (k : Nat) (l0 : List Int) (a1_0 : Bool) (a1_1 : Int) (a1_2 : Bool) (a1_3 : Bool) : Option (List Int × Bool) := (impl_areLevels.f k l0).bind fun t495 => (if t495 = true then ((impl_CondOk.f a1_0 a1_1 a1_2 a1_3).bind fun t496 => (impl_LevelsBack.j0 k l0 (!t496) a1_0 a1_1 a1_2 a1_3)) else (impl_LevelsBack.j0 k l0 true a1_0 a1_1 a1_2 a1_3))
theorem impl_LevelsBack.calls (k : Nat) (A0 : Option Addr) (c0 : Nat) (l0 : List Int) (a1_0 : Bool) (a1_1 : Int) (a1_2 : Bool) (a1_3 : Bool) (r1 : List Int) (r2 : Bool) (w : World) (hr0 : Kd.C (Kd.int .i64) w A0 l0.length l0) (hc0 : l0.length ≤ c0) (h : impl_LevelsBack.f k l0 a1_0 a1_1 a1_2 a1_3 = some (r1, r2)) :
  Calls Try.prog 77 #[.slice A0 l0.length c0, .agg #[.bool a1_0, .int .i64 a1_1, .bool a1_2, .bool a1_3]] w fun e w' => ∃ v0_ : Value, e = .returned (.tuple #[v0_, .bool r2]) ∧ Kd.R (Kd.int .i64) 3 w' w.heap.size (fun _ => True) v0_ r1 ∧ Below w.heap.size w w' := by
 have hu50 := Try.underlying50
 have HR0 := Aside0.mk hr0
 have HC0 := Aside0.mk hc0
 clear hr0 hc0
 have HB := Aside0.mk (Below.refl w.heap.size w)
 have H := h
 clear h
 unfold impl_LevelsBack.f at H
 have HC3 := Aside0.mk H
 clear H
 go_enter Try.func77, Try.ntmps77
 go_upto_region 1 with (first | ((with_reducible refine gate_dst (N := 3) rfl ?_); refine bx 3 #[.bool a1_0, .int .i64 a1_1, .bool a1_2, .bool a1_3] 50 ?_; intro gb494 hg w4 BK494 hb; have GW494 := ge HB hg; have GE494 := ge HB hg; replace HB := bs HB hb; clear hb hg))
 (try simp only [Act.put, List.setIfInBounds_toArray, List.set_cons_zero, List.set_cons_succ])
 go_cut [26] (fun v26 wc => ∃ (kq : Nat) (x26_2 : Bool), v26 = .bool x26_2 ∧ Aside0 (impl_LevelsBack.j0 kq l0 x26_2 a1_0 a1_1 a1_2 a1_3 = some (r1, r2)) ∧ Aside0 (kq ≤ k) ∧ Aside0 (wc.heap[gb494]? = some (.cells #[.bool a1_0, .int .i64 a1_1, .bool a1_2, .bool a1_3] 50 (0, 0))) ∧ Aside0 (Below w.heap.size w wc))
 case first =>
  have H := HC3.out
  clear HC3
  replace H := bnd H
  obtain ⟨t495, A5, H⟩ := H
  by_cases c6 : t495 = true
  ·subst c6
   rw [if_pos rfl] at H
   replace H := bnd H
   obtain ⟨t496, A7, H⟩ := H
   have H' := Aside0.mk H
   clear H
   go_wp2_with (first | ((with_reducible refine gate_callee (f := 112) rfl ?_); refine gD (some 20) Try.func112 #[.slice A0 l0.length c0] (impl_areLevels.calls k _ _ l0 true _ ?side1 ?side2 A5.out) ?_; (case side1 => exact ca (Kd.C_below HR0.out HB.out)); (case side2 => exact HC0.out); intro nd; obtain ⟨hcz8_0, hcz8_1, hcz8_2, hcz8_3, hfz8_0, hfz8_1, hfz8_2, hfz8_3⟩ := cl4 BK494) | (go_at_call 62; (with_reducible refine (impl_CondOk.calls a1_0 a1_1 a1_2 a1_3 t496 _ A7.out).mono ?_); rintro e w9 ⟨rfl, hb⟩; replace BK494 := bb BK494 hb; replace HB := bs HB hb; (try clear hb)))
   go_meet
   case rel => exact ⟨_, (!t496), rv, H', om, bk BK494, bh HB⟩
  ·replace c6 := Bool.eq_false_iff.mpr c6
   subst c6
   rw [if_neg nft] at H
   have H' := Aside0.mk H
   clear H
   go_wp2_with (first | ((with_reducible refine gate_callee (f := 112) rfl ?_); refine gD (some 20) Try.func112 #[.slice A0 l0.length c0] (impl_areLevels.calls k _ _ l0 false _ ?side1 ?side2 A5.out) ?_; (case side1 => exact ca (Kd.C_below HR0.out HB.out)); (case side2 => exact HC0.out); intro nd))
   go_meet
   case rel => exact ⟨_, (true), rv, H', om, bk BK494, bh HB⟩
 case rest =>
  clear HC3
  try clear hcz8_0 hcz8_1 hcz8_2 hcz8_3 hfz8_0 hfz8_1 hfz8_2 hfz8_3
  obtain ⟨kq, x26_2, rfl, HA, HJ2, BK494, HB⟩ := hcut
  cases kq with
  | zero => exact absurd HA.out (by simp [impl_LevelsBack.j0])
  | succ kj2 =>
   have H := HA.out
   clear HA
   simp only [impl_LevelsBack.j0] at H
   by_cases c10 : x26_2 = true
   ·subst c10
    rw [if_pos rfl] at H
    obtain ⟨y497, hy497⟩ : ∃ y_ : List Int, y_ = (([] : List Int)) := ⟨_, rfl⟩
    replace H : (some (y497, false)) = some (r1, r2) := by subst hy497; exact H
    have Ny497 := Aside0.mk hy497
    clear hy497
    simp only [Option.some.injEq, Prod.mk.injEq] at H
    obtain ⟨rfl, rfl⟩ := H
    go_wp2_with (first | ((with_reducible refine gate_dst (N := 27) rfl ?_); refine Kd.R_lit (Kd.int .i64) _ 3 ?hg (N := 27) ?hd (xs := ([] : List Int)) (inner := []) (ok := fun _ => True) (okp := fun _ => True) ?hr ?hp (fun _ hk => hk) trivial (Below.refl _ _) (Nat.le_refl _) (by simp) ?_; (case hd => rfl); (case hg => rfl); (case hr => first | (go_simp; done) | (go_simp; rfl)); (case hp => exact (Reps.none _ _)); intro v498 w11 ho12 hb hg_ hnew_; clear hg_ hnew_; (first | rw [← Ny497.out] at ho12 | (simp only [Int.reduceToNat] at ho12; rw [← Ny497.out] at ho12)); have HO499 := Aside0.mk (Kd.R_lower ho12 (below_size (bo HB))); replace BK494 := bb BK494 hb; replace HB := bs HB hb; clear hb ho12))
    go_ret2
    exact ⟨_, re, ro HO499.out, bo HB⟩
   ·replace c10 := Bool.eq_false_iff.mpr c10
    subst c10
    rw [if_neg nft] at H
    by_cases c13 : a1_3 = true
    ·subst c13
     rw [if_pos rfl] at H
     replace H := bnd H
     obtain ⟨⟨t500, t501⟩, A14, H⟩ := H
     dsimp only at H
     simp only [Option.some.injEq, Prod.mk.injEq] at H
     obtain ⟨rfl, rfl⟩ := H
     obtain ⟨hcz15_0, hcz15_1, hcz15_2, hcz15_3, hfz15_0, hfz15_1, hfz15_2, hfz15_3⟩ := cl4 BK494
     go_wp2_with (first | ((with_reducible refine gate_callee (f := 113) rfl ?_); refine gL (some 31) Try.func113 #[.int .i64 8, .slice A0 l0.length c0] ?_; (with_reducible refine (impl_Unscanned.calls kj2 8 _ _ l0 t500 t501 _ ?side1 ?side2 A14.out).mono ?_); (case side1 => exact ca (Kd.C_below HR0.out HB.out)); (case side2 => exact HC0.out); rintro e w16 ⟨v502, rfl, ho0, hb⟩; refine ⟨_, rfl, ?_⟩; have HO503 := Aside0.mk (Kd.R_lower ho0 (below_size (bo HB))); replace BK494 := bb BK494 hb; replace HB := bs HB hb; (try clear hb); (try clear ho0)))
     go_ret2
     exact ⟨_, re, ro HO503.out, bo HB⟩
    ·replace c13 := Bool.eq_false_iff.mpr c13
     subst c13
     rw [if_neg nft] at H
     by_cases c17 : a1_2 = true
     ·subst c17
      rw [if_pos rfl] at H
      replace H := bnd H
      obtain ⟨⟨t504, t505⟩, A18, H⟩ := H
      dsimp only at H
      have H' := Aside0.mk H
      clear H
      obtain ⟨hcz19_0, hcz19_1, hcz19_2, hcz19_3, hfz19_0, hfz19_1, hfz19_2, hfz19_3⟩ := cl4 BK494
      go_wp2_with (first | ((with_reducible refine gate_callee (f := 113) rfl ?_); refine gL (some 38) Try.func113 #[.int .i64 8, .slice A0 l0.length c0] ?_; (with_reducible refine (impl_Unscanned.calls kj2 8 _ _ l0 t504 t505 _ ?side1 ?side2 A18.out).mono ?_); (case side1 => exact ca (Kd.C_below HR0.out HB.out)); (case side2 => exact HC0.out); rintro e w20 ⟨v506, rfl, ho0, hb⟩; refine ⟨_, rfl, ?_⟩; have HO507 := Aside0.mk (Kd.R_lower ho0 (below_size (bo HB))); replace BK494 := bb BK494 hb; replace HB := bs HB hb; (try clear hb); (try clear ho0); obtain ⟨Ao21, co21, eo21⟩ := Kd.R_slice HO507.out; subst eo21))
      go_loopg [43] kj2 (fun kq v43 w' => ∃ (x6_2 : List Int) (x43_2 : Int), v43 = .int .i64 x43_2 ∧ Aside0 (impl_LevelsBack.l0 kq x6_2 (t504.length : Int) x43_2 a1_0 a1_1 true false = some (r1, r2)) ∧ Aside0 (kq ≤ kj2) ∧ Aside0 (Kd.R (Kd.int .i64) 3 w' w.heap.size (fun _ => True) (.slice Ao21 t504.length co21) x6_2) ∧ Aside0 (w'.heap[gb494]? = some (.cells #[.bool a1_0, .int .i64 a1_1, .bool true, .bool false] 50 (0, 0))) ∧ Aside0 (Below w.heap.size w w'))
      case atStart => exact ⟨(t504), (0), rv, H', ⟨Nat.le_refl _⟩, (ra HO507.out), bk BK494, bh HB⟩
      case round =>
       clear H'
       try clear hcz15_0 hcz15_1 hcz15_2 hcz15_3 hfz15_0 hfz15_1 hfz15_2 hfz15_3
       try clear hcz19_0 hcz19_1 hcz19_2 hcz19_3 hfz19_0 hfz19_1 hfz19_2 hfz19_3
       try clear hcz8_0 hcz8_1 hcz8_2 hcz8_3 hfz8_0 hfz8_1 hfz8_2 hfz8_3
       obtain ⟨x6_2, x43_2, rfl, HA, HK2, HO_6, BK494, HB⟩ := hrel
       have hl6_2 := (Kd.R_reads' HO_6.out).1
       rw [hl6_2] at HO_6
       (try simp only [hl6_2])
       (try simp only [hl6_2] at BK494)
       cases gk with
       | zero => exact absurd HA.out (by simp [impl_LevelsBack.l0])
       | succ k2 =>
        have H := HA.out
        clear HA
        simp only [impl_LevelsBack.l0] at H
        by_cases c22 : x43_2 < (t504.length : Int)
        ·rw [if_pos c22] at H
         have c22b0 := decide_eq_true c22
         (try (have c22b0h := c22b0; simp only [hl6_2] at c22b0h))
         clear c22
         by_cases c23 : 0 ≤ x43_2
         ·rw [if_pos c23] at H
          have c23b0 := decide_eq_true c23
          (try (have c23b0h := c23b0; simp only [hl6_2] at c23b0h))
          clear c23
          by_cases c24 : x43_2 < (x6_2.length : Int)
          ·rw [if_pos c24] at H
           have c24b0 := decide_eq_true c24
           (try (have c24b0h := c24b0; simp only [hl6_2] at c24b0h))
           clear c24
           replace H := bnd H
           obtain ⟨t509, A25, H⟩ := H
           obtain ⟨y510, hy510⟩ : ∃ y_ : List Int, y_ = (x6_2.set (x43_2 : Int).toNat t509) := ⟨_, rfl⟩
           replace H : (impl_LevelsBack.l0 k2 y510 (t504.length : Int) (wrap64 (x43_2 + 1)) a1_0 a1_1 true false) = some (r1, r2) := by subst hy510; exact H
           have Ny510 := Aside0.mk hy510
           clear hy510
           have H' := Aside0.mk H
           clear H
           have p508 : 0 ≤ (x43_2 : Int) := od
           have q508 : x43_2 < (x6_2.length : Int) := od
           obtain ⟨ad508, e508, hx508_0⟩ := Kd.at_int (Kd.R_reads' HO_6.out).2.2 x43_2 p508 q508
           cases e508
           replace p508 := eq_true p508
           replace q508 := eq_true q508
           obtain ⟨hcz27_0, hcz27_1, hcz27_2, hcz27_3, hfz27_0, hfz27_1, hfz27_2, hfz27_3⟩ := cl4 BK494
           go_wp2_with (first | ((with_reducible refine gate_callee (f := 114) rfl ?_); refine gL (some 53) Try.func114 #[.int .i64 (rd x6_2 x43_2), .int .i64 a1_1] ?_; (with_reducible refine (impl_LargeBack.calls (rd x6_2 x43_2) a1_1 t509 _ A25.out).mono ?_); rintro e w28 ⟨rfl, hb⟩; refine ⟨_, rfl, ?_⟩; replace HO_6 := Aside0.mk (Kd.R_below (ro HO_6.out) hb); replace BK494 := bb BK494 hb; replace HB := bs HB hb; (try clear hb); have p26 : 0 ≤ (x43_2 : Int) := od; have q26 : (x43_2 : Int) < ((x6_2.length : Int) : Int) := od; obtain ⟨go26, co26, eo26, gb26, gl26, cl26, HG26⟩ := Kd.R_form HO_6.out (by omega); (first | cases eo26 | (injection eo26 with ea_ en_ ec_; (first | subst ea_ | (injection ea_ with ea_; subst ea_)); subst ec_; clear en_)); have GB26 := Aside0.mk gb26; have GG26 := Aside0.mk HG26; clear gb26 gl26 HG26; (first | simp only [add_plain] at hx508_0 | skip); obtain ⟨hx26_0, hf26_0⟩ := Kd.R_celln 0 HO_6.out (x43_2 : Int) p26 q26; replace p26 := eq_true p26; replace q26 := eq_true q26; obtain ⟨hy29_, hz29_⟩ := Kd.R_celln 0 HO_6.out (x43_2 : Int) (od) (od); have HP29 := Kd.R_putg HO_6.out (x43_2 : Int) t509) | ((with_reducible refine gate_store (t := 3) (p := 54) rfl ?_); refine store_event (t := 3) (p := 54) (v := ?vo_w30) (w1 := (w28.setCell ⟨go26, (x43_2 : Int).toNat, none⟩ (.int .i64 t509))) ?hg ?ho ?hn ?hr ?_; (case ho => rfl); (case hg => rfl); (case hn => rfl); (case hr => first | (go_simp; done) | (go_simp; rfl)); intro w30 hw; have hg : w28.grownBy w30 (some go26) := (by rw [hw]; exact HP29.2); have hp_ : Kd.R (Kd.int .i64) 3 w30 w.heap.size (fun _ => True) (.slice (some ⟨go26, 0, none⟩) x6_2.length co21) y510 := (by rw [hw, Ny510.out]; exact HP29.1); clear HP29; replace BK494 := Aside0.mk (blk_grown (bt BK494) hg (Kd.R_ne HO_6.out BK494.out (by decide))); replace HO_6 := Aside0.mk (hp_); replace HB := Aside0.mk ((by rw [hw]; exact below_set (HB.out) GB26.out : Below w.heap.size w w30)); clear hg hw hp_))
           (try simp only [← hl6_2])
           go_roundg k2
           case measure => have := HJ2.out; have := HK2.out; omega
           case rel => exact ⟨(y510), (wrap64 (x43_2 + 1)), rv, H', ⟨by have := HJ2.out; have := HK2.out; omega⟩, ⟨by (try simp only [hl6_2]); (with_reducible repeat (first | apply Kd.R_alloc | apply Kd.R_drewN | apply Kd.R_drew)); exact HO_6.out⟩, ⟨by (try simp only [hl6_2]); (with_reducible repeat (first | refine blk_drewN ?_ _ | refine blk_drew ?_ | refine blk_alloc ?_ _)); exact BK494.out⟩, bh HB⟩
          ·rw [if_neg c24] at H
           exact absurd H (by simp)
         ·rw [if_neg c23] at H
          exact absurd H (by simp)
        ·rw [if_neg c22] at H
         have c22b0 := decide_eq_false c22
         (try (have c22b0h := c22b0; simp only [hl6_2] at c22b0h))
         clear c22
         replace H := bnd H
         obtain ⟨t511, A31, H⟩ := H
         simp only [Option.some.injEq, Prod.mk.injEq] at H
         obtain ⟨rfl, rfl⟩ := H
         go_wp2_with (first | ((with_reducible refine gate_callee (f := 115) rfl ?_); refine gL (some 57) Try.func115 #[.slice Ao21 x6_2.length co21] ?_; (with_reducible refine (impl_EightBack.calls k2 _ _ x6_2 t511 _ ?side1 ?side2 A31.out).mono ?_); (case side1 => exact ca ((Kd.R_reads' HO_6.out).2.2)); (case side2 => exact (Kd.R_reads' HO_6.out).2.1); rintro e w32 ⟨v512, rfl, ho0, hb⟩; refine ⟨_, rfl, ?_⟩; have HO513 := Aside0.mk (Kd.R_lower (Kd.R_new' ho0 (Kd.R_lt (ro HO_6.out))) (below_size (bo HB))); replace HO_6 := Aside0.mk (Kd.R_elder' (ro HO_6.out) (Kd.R_base ho0) hb); replace BK494 := bb BK494 hb; replace HB := bs HB hb; (try clear hb); (try clear ho0)))
         go_ret2
         exact ⟨_, re, ro (Kd.R_mono HO513.out (fun _ hk => trivial)), bo HB⟩
     ·replace c17 := Bool.eq_false_iff.mpr c17
      subst c17
      rw [if_neg nft] at H
      by_cases c33 : 64 ≤ 35184372088832
      ·rw [if_pos c33] at H
       have c33b0 := eq_true c33
       have c33b1 := decide_eq_true c33
       clear c33
       obtain ⟨y514, hy514⟩ : ∃ y_ : List Int, y_ = (List.replicate 64 0) := ⟨_, rfl⟩
       replace H : (impl_LevelsBack.l1 kj2 l0 y514 0 a1_0 a1_1 false false) = some (r1, r2) := by subst hy514; exact H
       have Ny514 := Aside0.mk hy514
       clear hy514
       have H' := Aside0.mk H
       clear H
       obtain ⟨hcz34_0, hcz34_1, hcz34_2, hcz34_3, hfz34_0, hfz34_1, hfz34_2, hfz34_3⟩ := cl4 BK494
       go_wp2_with (first | ((with_reducible refine gate_dst (N := 58) rfl ?_); refine Kd.R_make (Kd.int .i64) _ 3 rfl (N := 58) rfl 35 _ _ rfl 64 rfl rfl Try.underlying35 (.int .i64 0) 8 info3 rfl (by decide) (by omega) 0 (ok := fun _ => True) (okp := fun _ => True) rfl (fun _ hk => hk) trivial (by omega) (by omega) (Below.refl _ _) (Nat.le_refl _) ?_; intro v515 w35 ho36 hb hg_ hnew_; clear hg_ hnew_; (first | rw [← Ny514.out] at ho36 | (simp only [Int.reduceToNat] at ho36; rw [← Ny514.out] at ho36)); have HO516 := Aside0.mk (Kd.R_lower ho36 (below_size (bo HB))); replace BK494 := bb BK494 hb; replace HB := bs HB hb; clear hb ho36))
       go_loopg [59] kj2 (fun kq v59 w' => ∃ (x10_2 : List Int) (x59_2 : Int), v59 = .int .i64 x59_2 ∧ Aside0 (impl_LevelsBack.l1 kq l0 x10_2 x59_2 a1_0 a1_1 false false = some (r1, r2)) ∧ Aside0 (kq ≤ kj2) ∧ Aside0 (Kd.R (Kd.int .i64) 3 w' w.heap.size (fun _ => True) v515 x10_2) ∧ Aside0 (w'.heap[gb494]? = some (.cells #[.bool a1_0, .int .i64 a1_1, .bool false, .bool false] 50 (0, 0))) ∧ Aside0 (Below w.heap.size w w'))
       case atStart => exact ⟨(y514), (0), rv, H', ⟨Nat.le_refl _⟩, (ra HO516.out), bk BK494, bh HB⟩
       case round =>
        clear H'
        try clear q2
        try clear hx2
        try clear hf2
        try clear q5
        try clear hx5
        try clear q26
        try clear hx26
        try clear hf26
        try clear hcz15_0 hcz15_1 hcz15_2 hcz15_3 hfz15_0 hfz15_1 hfz15_2 hfz15_3
        try clear hcz19_0 hcz19_1 hcz19_2 hcz19_3 hfz19_0 hfz19_1 hfz19_2 hfz19_3
        try clear hcz27_0 hcz27_1 hcz27_2 hcz27_3 hfz27_0 hfz27_1 hfz27_2 hfz27_3
        try clear hcz34_0 hcz34_1 hcz34_2 hcz34_3 hfz34_0 hfz34_1 hfz34_2 hfz34_3
        try clear hcz8_0 hcz8_1 hcz8_2 hcz8_3 hfz8_0 hfz8_1 hfz8_2 hfz8_3
        try clear hx26_0
        try clear hx508_0
        try clear q26
        try clear q508
        obtain ⟨x10_2, x59_2, rfl, HA, HK2, HO_10, BK494, HB⟩ := hrel
        cases gk with
        | zero => exact absurd HA.out (by simp [impl_LevelsBack.l1])
        | succ k2 =>
         have H := HA.out
         clear HA
         simp only [impl_LevelsBack.l1] at H
         by_cases c37 : x59_2 < 4
         ·rw [if_pos c37] at H
          have c37b0 := decide_eq_true c37
          clear c37
          obtain ⟨ji38, hji38⟩ : ∃ j_ : Int, (wrap64 (16 * x59_2)) = j_ := ⟨_, rfl⟩
          replace H : (if 0 ≤ (ji38) then (if (ji38) ≤ (wrap64 ((ji38) + 16)) then (if (wrap64 ((ji38) + 16)) ≤ (l0.length : Int) then ((impl_Unscanned.f k2 4 ((l0.take ((wrap64 ((ji38) + 16)) : Int).toNat).drop ((ji38) : Int).toNat)).bind fun bt518 => (impl_LevelsBack.l2 k2 l0 x10_2 x59_2 bt518.1 x59_2 (bt518.1.length : Int) 0 a1_0 a1_1 false false)) else (none)) else (none)) else (none)) = some (r1, r2) := by first | (rw [hji38] at H; exact H) | (simp only [hji38] at H ⊢; exact H)
          have hji38w : (IntKind.i64.wrap (16 * x59_2)) = ji38 := (i64_w _).trans hji38
          by_cases c39 : 0 ≤ (ji38)
          ·rw [if_pos c39] at H
           have c39b0 := eq_true c39
           have c39b1 := decide_eq_true c39
           clear c39
           by_cases c40 : (ji38) ≤ (wrap64 ((ji38) + 16))
           ·rw [if_pos c40] at H
            have c40b0 := eq_true c40
            have c40b1 := decide_eq_true c40
            by_cases c41 : (wrap64 ((ji38) + 16)) ≤ (l0.length : Int)
            ·rw [if_pos c41] at H
             have c41b0 := eq_true c41
             have c41b1 := decide_eq_true c41
             replace H := bnd H
             obtain ⟨⟨t518, t519⟩, A42, H⟩ := H
             dsimp only at H
             have H' := Aside0.mk H
             clear H
             obtain ⟨i043, hi043, _, hsz43, _⟩ := info_parts info3
             obtain ⟨A43, hcut43, hA43, hC43⟩ := print_mid_of (P := Try.prog) (Value.int .i64) 0 35 3 .i64 .i64 Try.underlying35 hi043 hsz43 A0 c0 l0 (ji38) (wrap64 ((ji38) + 16)) (od) (by first | omega | exact od) (od) HC0.out
             have HR517 := Aside0.mk (Kd.C_of_reads (h1 := fun _ => rfl) (hA43 _ (Kd.reads_of_C HR0.out)))
             have HC517 := Aside0.mk hC43
             clear hA43 hC43 hi043 hsz43
             go_wp2_with (first | ((with_reducible refine gate_callee (f := 113) rfl ?_); refine gL (some 70) Try.func113 #[.int .i64 4, .slice A43 ((l0.take ((wrap64 ((ji38) + 16)) : Int).toNat).drop ((ji38) : Int).toNat).length (c0 - (ji38).toNat)] ?_ (hargs := (by (try simp only [List.map_toArray, List.map_cons, List.map_nil]); first | done | (rw [show ((l0.take ((wrap64 ((ji38) + 16)) : Int).toNat).drop ((ji38) : Int).toNat).length = ((wrap64 ((ji38) + 16)).toNat - (ji38).toNat) from (by rw [List.length_drop, List.length_take]; have h_ : ((wrap64 ((ji38) + 16)) : Int) ≤ (l0.length : Int) := od; omega)] <;> rfl) | (simp only [hji38]; rfl) | rfl | (simp only [List.length_drop, List.length_take]; rfl))); (with_reducible refine (impl_Unscanned.calls k2 4 _ _ ((l0.take ((wrap64 ((ji38) + 16)) : Int).toNat).drop ((ji38) : Int).toNat) t518 t519 _ ?side1 ?side2 A42.out).mono ?_); (case side1 => exact ca (Kd.C_below HR517.out HB.out)); (case side2 => exact HC517.out); rintro e w44 ⟨v520, rfl, ho0, hb⟩; refine ⟨_, rfl, ?_⟩; have HO521 := Aside0.mk (Kd.R_lower (Kd.R_new' ho0 (Kd.R_lt (ro HO_10.out))) (below_size (bo HB))); replace HO_10 := Aside0.mk (Kd.R_elder' (ro HO_10.out) (Kd.R_base ho0) hb); replace BK494 := bb BK494 hb; replace HB := bs HB hb; (try clear hb); (try clear ho0); obtain ⟨Ao45, co45, eo45⟩ := Kd.R_slice HO521.out; subst eo45))
             go_loopg [75] k2 (fun kq v75 w' => ∃ (x12_3 : List Int) (x75_3 : Int), v75 = .int .i64 x75_3 ∧ Aside0 (impl_LevelsBack.l2 kq l0 x10_2 x59_2 x12_3 x59_2 (t518.length : Int) x75_3 a1_0 a1_1 false false = some (r1, r2)) ∧ Aside0 (kq ≤ k2) ∧ Aside0 (Kd.R (Kd.int .i64) 3 w' w.heap.size (fun k_ => some k_ ≠ ((.slice Ao45 t518.length co45) : Value).ownBlock) v515 x10_2) ∧ Aside0 (Kd.R (Kd.int .i64) 3 w' w.heap.size (fun k_ => some k_ ≠ (v515 : Value).ownBlock) (.slice Ao45 t518.length co45) x12_3) ∧ Aside0 (w'.heap[gb494]? = some (.cells #[.bool a1_0, .int .i64 a1_1, .bool false, .bool false] 50 (0, 0))) ∧ Aside0 (Below w.heap.size w w'))
             case atStart => exact ⟨(t518), (0), rv, H', ⟨Nat.le_refl _⟩, (ra (Kd.R_mono HO_10.out (fun _ hk => hk.2))), (ra (Kd.R_mono HO521.out (fun _ hk => hk.2))), bk BK494, bh HB⟩
             case round =>
              clear H'
              try clear q2
              try clear hx2
              try clear hf2
              try clear q5
              try clear hx5
              try clear q26
              try clear hx26
              try clear hf26
              try clear hcz15_0 hcz15_1 hcz15_2 hcz15_3 hfz15_0 hfz15_1 hfz15_2 hfz15_3
              try clear hcz19_0 hcz19_1 hcz19_2 hcz19_3 hfz19_0 hfz19_1 hfz19_2 hfz19_3
              try clear hcz27_0 hcz27_1 hcz27_2 hcz27_3 hfz27_0 hfz27_1 hfz27_2 hfz27_3
              try clear hcz34_0 hcz34_1 hcz34_2 hcz34_3 hfz34_0 hfz34_1 hfz34_2 hfz34_3
              try clear hcz8_0 hcz8_1 hcz8_2 hcz8_3 hfz8_0 hfz8_1 hfz8_2 hfz8_3
              try clear hx26_0
              try clear hx508_0
              try clear q2
              try clear q26
              try clear q5
              try clear q508
              obtain ⟨x12_3, x75_3, rfl, HA, HK3, HO_10, HO_12, BK494, HB⟩ := hrel
              have hl12_3 := (Kd.R_reads' HO_12.out).1
              rw [hl12_3] at HO_12
              (try simp only [hl12_3])
              (try simp only [hl12_3] at BK494)
              (try simp only [hl12_3] at HO_10)
              cases gk with
              | zero => exact absurd HA.out (by simp [impl_LevelsBack.l2])
              | succ k3 =>
               have H := HA.out
               clear HA
               simp only [impl_LevelsBack.l2] at H
               by_cases c46 : x75_3 < (t518.length : Int)
               ·rw [if_pos c46] at H
                have c46b0 := decide_eq_true c46
                (try (have c46b0h := c46b0; simp only [hl12_3] at c46b0h))
                clear c46
                by_cases c47 : 0 ≤ x75_3
                ·rw [if_pos c47] at H
                 have c47b0 := decide_eq_true c47
                 (try (have c47b0h := c47b0; simp only [hl12_3] at c47b0h))
                 clear c47
                 by_cases c48 : x75_3 < (x12_3.length : Int)
                 ·rw [if_pos c48] at H
                  have c48b0 := decide_eq_true c48
                  (try (have c48b0h := c48b0; simp only [hl12_3] at c48b0h))
                  clear c48
                  replace H := bnd H
                  obtain ⟨t523, A49, H⟩ := H
                  obtain ⟨y524, hy524⟩ : ∃ y_ : List Int, y_ = (x12_3.set (x75_3 : Int).toNat t523) := ⟨_, rfl⟩
                  replace H : (impl_LevelsBack.l2 k3 l0 x10_2 x59_2 y524 x59_2 (t518.length : Int) (wrap64 (x75_3 + 1)) a1_0 a1_1 false false) = some (r1, r2) := by subst hy524; exact H
                  have Ny524 := Aside0.mk hy524
                  clear hy524
                  have H' := Aside0.mk H
                  clear H
                  have p522 : 0 ≤ (x75_3 : Int) := od
                  have q522 : x75_3 < (x12_3.length : Int) := od
                  obtain ⟨ad522, e522, hx522_0⟩ := Kd.at_int (Kd.R_reads' HO_12.out).2.2 x75_3 p522 q522
                  cases e522
                  replace p522 := eq_true p522
                  replace q522 := eq_true q522
                  obtain ⟨hcz51_0, hcz51_1, hcz51_2, hcz51_3, hfz51_0, hfz51_1, hfz51_2, hfz51_3⟩ := cl4 BK494
                  go_wp2_with (first | ((with_reducible refine gate_callee (f := 116) rfl ?_); refine gL (some 86) Try.func116 #[.int .i64 (rd x12_3 x75_3), .int .i64 a1_1, .int .i64 x75_3] ?_; (with_reducible refine (impl_SmallBack.calls k3 (rd x12_3 x75_3) a1_1 x75_3 t523 _ A49.out).mono ?_); rintro e w52 ⟨rfl, hb⟩; refine ⟨_, rfl, ?_⟩; replace HO_10 := Aside0.mk (Kd.R_below (ro HO_10.out) hb); replace HO_12 := Aside0.mk (Kd.R_below (ro HO_12.out) hb); replace BK494 := bb BK494 hb; replace HB := bs HB hb; (try clear hb); have p50 : 0 ≤ (x75_3 : Int) := od; have q50 : (x75_3 : Int) < ((x12_3.length : Int) : Int) := od; obtain ⟨go50, co50, eo50, gb50, gl50, cl50, HG50⟩ := Kd.R_form HO_12.out (by omega); (first | cases eo50 | (injection eo50 with ea_ en_ ec_; (first | subst ea_ | (injection ea_ with ea_; subst ea_)); subst ec_; clear en_)); have GB50 := Aside0.mk gb50; have GG50 := Aside0.mk HG50; clear gb50 gl50 HG50; (first | simp only [add_plain] at hx522_0 | skip); obtain ⟨hx50_0, hf50_0⟩ := Kd.R_celln 0 HO_12.out (x75_3 : Int) p50 q50; replace p50 := eq_true p50; replace q50 := eq_true q50; obtain ⟨hy53_, hz53_⟩ := Kd.R_celln 0 HO_12.out (x75_3 : Int) (od) (od); have HP53 := Kd.R_putg HO_12.out (x75_3 : Int) t523) | ((with_reducible refine gate_store (t := 3) (p := 87) rfl ?_); refine store_event (t := 3) (p := 87) (v := ?vo_w54) (w1 := (w52.setCell ⟨go50, (x75_3 : Int).toNat, none⟩ (.int .i64 t523))) ?hg ?ho ?hn ?hr ?_; (case ho => rfl); (case hg => rfl); (case hn => rfl); (case hr => first | (go_simp; done) | (go_simp; rfl)); intro w54 hw; have hg : w52.grownBy w54 (some go50) := (by rw [hw]; exact HP53.2); have hp_ : Kd.R (Kd.int .i64) 3 w54 w.heap.size (fun k_ => some k_ ≠ (v515 : Value).ownBlock) (.slice (some ⟨go50, 0, none⟩) x12_3.length co45) y524 := (by rw [hw, Ny524.out]; exact HP53.1); clear HP53; replace HO_10 := Aside0.mk (Kd.R_after (v := (.slice (some ⟨go50, 0, none⟩) x12_3.length co45)) (v1 := (.slice (some ⟨go50, 0, none⟩) x12_3.length co45)) (ok := (fun _ => True)) (ro (Kd.R_mono HO_10.out (fun _ hk => ⟨trivial, hk⟩))) hg (.inl rfl)); replace BK494 := Aside0.mk (blk_grown (bt BK494) hg (Kd.R_ne HO_12.out BK494.out (by decide))); replace HO_12 := Aside0.mk (hp_); replace HB := Aside0.mk ((by rw [hw]; exact below_set (HB.out) GB50.out : Below w.heap.size w w54)); clear hg hw hp_))
                  (try simp only [← hl12_3])
                  go_roundg k3
                  case measure => have := HJ2.out; have := HK2.out; have := HK3.out; omega
                  case rel => exact ⟨(y524), (wrap64 (x75_3 + 1)), rv, H', ⟨by have := HJ2.out; have := HK2.out; have := HK3.out; omega⟩, ⟨by (try simp only [hl12_3]); (with_reducible repeat (first | apply Kd.R_alloc | apply Kd.R_drewN | apply Kd.R_drew)); exact Kd.R_mono HO_10.out (fun _ hk => hk.2)⟩, ⟨by (try simp only [hl12_3]); (with_reducible repeat (first | apply Kd.R_alloc | apply Kd.R_drewN | apply Kd.R_drew)); exact HO_12.out⟩, ⟨by (try simp only [hl12_3]); (with_reducible repeat (first | refine blk_drewN ?_ _ | refine blk_drew ?_ | refine blk_alloc ?_ _)); exact BK494.out⟩, bh HB⟩
                 ·rw [if_neg c48] at H
                  exact absurd H (by simp)
                ·rw [if_neg c47] at H
                 exact absurd H (by simp)
               ·rw [if_neg c46] at H
                have c46b0 := decide_eq_false c46
                (try (have c46b0h := c46b0; simp only [hl12_3] at c46b0h))
                clear c46
                replace H := bnd H
                obtain ⟨t525, A55, H⟩ := H
                replace H := bnd H
                obtain ⟨t528, A56, H⟩ := H
                have H' := Aside0.mk H
                clear H
                go_wp2_with (first | ((with_reducible refine gate_callee (f := 117) rfl ?_); refine gL (some 90) Try.func117 #[.slice Ao45 x12_3.length co45] ?_; (with_reducible refine (impl_FourBack.calls k3 _ _ x12_3 t525 _ ?side1 ?side2 A55.out).mono ?_); (case side1 => exact ca ((Kd.R_reads' HO_12.out).2.2)); (case side2 => exact (Kd.R_reads' HO_12.out).2.1); rintro e w57 ⟨v526, rfl, ho0, hb⟩; refine ⟨_, rfl, ?_⟩; have HO527 := Aside0.mk (Kd.R_lower (Kd.R_new' (Kd.R_new' ho0 (Kd.R_lt (ro HO_10.out))) (Kd.R_lt (ro HO_12.out))) (below_size (bo HB))); replace HO_10 := Aside0.mk (Kd.R_elder' (ro HO_10.out) (Kd.R_base ho0) hb); replace HO_12 := Aside0.mk (Kd.R_elder' (ro HO_12.out) (Kd.R_base ho0) hb); replace BK494 := bb BK494 hb; replace HB := bs HB hb; (try clear hb); (try clear ho0)) | ((with_reducible refine gate_callee (f := 118) rfl ?_); refine gL (some 92) Try.func118 #[.int .i64 x59_2] ?_; (with_reducible refine (impl_quarter.calls k3 x59_2 t528 _ A56.out).mono ?_); rintro e w58 ⟨v529, rfl, ho0, hb⟩; refine ⟨_, rfl, ?_⟩; have HO530 := Aside0.mk (Kd.R_lower (Kd.R_new' (Kd.R_new' (Kd.R_new' ho0 (Kd.R_lt (ro HO_10.out))) (Kd.R_lt (ro HO_12.out))) (Kd.R_lt (ro HO527.out))) (below_size (bo HB))); replace HO_10 := Aside0.mk (Kd.R_elder' (ro HO_10.out) (Kd.R_base ho0) hb); replace HO_12 := Aside0.mk (Kd.R_elder' (ro HO_12.out) (Kd.R_base ho0) hb); replace HO527 := Aside0.mk (Kd.R_elder' (ro HO527.out) (Kd.R_base ho0) hb); replace BK494 := bb BK494 hb; replace HB := bs HB hb; (try clear hb); (try clear ho0); obtain ⟨Ao59, co59, eo59⟩ := Kd.R_slice HO530.out; subst eo59))
                go_loopg [94] k3 (fun kq v94 w' => ∃ (x10_4 : List Int) (x94_4 : Int), v94 = .int .i64 x94_4 ∧ Aside0 (impl_LevelsBack.l3 kq l0 x10_4 t525 x59_2 t528 (t528.length : Int) x94_4 a1_0 a1_1 false false = some (r1, r2)) ∧ Aside0 (kq ≤ k3) ∧ Aside0 (Kd.R (Kd.int .i64) 3 w' w.heap.size (fun k_ => some k_ ≠ (v526 : Value).ownBlock ∧ some k_ ≠ ((.slice Ao59 t528.length co59) : Value).ownBlock) v515 x10_4) ∧ Aside0 (Kd.R (Kd.int .i64) 3 w' w.heap.size (fun k_ => some k_ ≠ (v515 : Value).ownBlock ∧ some k_ ≠ ((.slice Ao59 t528.length co59) : Value).ownBlock) v526 t525) ∧ Aside0 (Kd.R (Kd.int .i64) 3 w' w.heap.size (fun k_ => some k_ ≠ (v515 : Value).ownBlock ∧ some k_ ≠ (v526 : Value).ownBlock) (.slice Ao59 t528.length co59) t528) ∧ Aside0 (w'.heap[gb494]? = some (.cells #[.bool a1_0, .int .i64 a1_1, .bool false, .bool false] 50 (0, 0))) ∧ Aside0 (Below w.heap.size w w'))
                case atStart => exact ⟨(x10_2), (0), rv, H', ⟨Nat.le_refl _⟩, ⟨by (try simp only [hl12_3]); (with_reducible repeat (first | apply Kd.R_alloc | apply Kd.R_drewN | apply Kd.R_drew)); exact Kd.R_mono HO_10.out (fun _ hk => ⟨hk.1.2, hk.2⟩)⟩, ⟨by (try simp only [hl12_3]); (with_reducible repeat (first | apply Kd.R_alloc | apply Kd.R_drewN | apply Kd.R_drew)); exact Kd.R_mono HO527.out (fun _ hk => ⟨hk.1.1.2, hk.2⟩)⟩, ⟨by (try simp only [hl12_3]); (with_reducible repeat (first | apply Kd.R_alloc | apply Kd.R_drewN | apply Kd.R_drew)); exact Kd.R_mono HO530.out (fun _ hk => ⟨hk.1.1.2, hk.2⟩)⟩, ⟨by (try simp only [hl12_3]); (with_reducible repeat (first | refine blk_drewN ?_ _ | refine blk_drew ?_ | refine blk_alloc ?_ _)); exact BK494.out⟩, bh HB⟩
                case round =>
                 clear H'
                 try clear q2
                 try clear hx2
                 try clear hf2
                 try clear q5
                 try clear hx5
                 try clear hf5
                 try clear q26
                 try clear hx26
                 try clear hf26
                 try clear q50
                 try clear hx50
                 try clear hf50
                 try clear q52
                 try clear hx52
                 try clear hcz15_0 hcz15_1 hcz15_2 hcz15_3 hfz15_0 hfz15_1 hfz15_2 hfz15_3
                 try clear hcz19_0 hcz19_1 hcz19_2 hcz19_3 hfz19_0 hfz19_1 hfz19_2 hfz19_3
                 try clear hcz27_0 hcz27_1 hcz27_2 hcz27_3 hfz27_0 hfz27_1 hfz27_2 hfz27_3
                 try clear hcz34_0 hcz34_1 hcz34_2 hcz34_3 hfz34_0 hfz34_1 hfz34_2 hfz34_3
                 try clear hcz51_0 hcz51_1 hcz51_2 hcz51_3 hfz51_0 hfz51_1 hfz51_2 hfz51_3
                 try clear hcz8_0 hcz8_1 hcz8_2 hcz8_3 hfz8_0 hfz8_1 hfz8_2 hfz8_3
                 try clear hx26_0
                 try clear hx508_0
                 try clear hx50_0
                 try clear hx522_0
                 try clear q2
                 try clear q26
                 try clear q5
                 try clear q50
                 try clear q508
                 try clear q522
                 obtain ⟨x10_4, x94_4, rfl, HA, HK4, HO_10, HO_16, HO_92, BK494, HB⟩ := hrel
                 cases gk with
                 | zero => exact absurd HA.out (by simp [impl_LevelsBack.l3])
                 | succ k4 =>
                  have H := HA.out
                  clear HA
                  simp only [impl_LevelsBack.l3] at H
                  by_cases c60 : x94_4 < (t528.length : Int)
                  ·rw [if_pos c60] at H
                   have c60b0 := decide_eq_true c60
                   (try (have c60b0h := c60b0; simp only [hl12_3] at c60b0h))
                   clear c60
                   by_cases c61 : 0 ≤ x94_4
                   ·rw [if_pos c61] at H
                    have c61b0 := decide_eq_true c61
                    (try (have c61b0h := c61b0; simp only [hl12_3] at c61b0h))
                    clear c61
                    by_cases c62 : x94_4 < (t528.length : Int)
                    ·rw [if_pos c62] at H
                     have c62b0 := decide_eq_true c62
                     (try (have c62b0h := c62b0; simp only [hl12_3] at c62b0h))
                     clear c62
                     by_cases c63 : x94_4 < (t525.length : Int)
                     ·rw [if_pos c63] at H
                      have c63b0 := decide_eq_true c63
                      (try (have c63b0h := c63b0; simp only [hl12_3] at c63b0h))
                      clear c63
                      by_cases c64 : 0 ≤ (rd t528 x94_4)
                      ·rw [if_pos c64] at H
                       have c64b0 := decide_eq_true c64
                       (try (have c64b0h := c64b0; simp only [hl12_3] at c64b0h))
                       clear c64
                       by_cases c65 : (rd t528 x94_4) < (x10_4.length : Int)
                       ·rw [if_pos c65] at H
                        have c65b0 := decide_eq_true c65
                        (try (have c65b0h := c65b0; simp only [hl12_3] at c65b0h))
                        clear c65
                        obtain ⟨y533, hy533⟩ : ∃ y_ : List Int, y_ = (x10_4.set ((rd t528 x94_4) : Int).toNat (rd t525 x94_4)) := ⟨_, rfl⟩
                        replace H : (impl_LevelsBack.l3 k4 l0 y533 t525 x59_2 t528 (t528.length : Int) (wrap64 (x94_4 + 1)) a1_0 a1_1 false false) = some (r1, r2) := by subst hy533; exact H
                        have Ny533 := Aside0.mk hy533
                        clear hy533
                        have H' := Aside0.mk H
                        clear H
                        have p531 : 0 ≤ (x94_4 : Int) := od
                        have q531 : x94_4 < (t528.length : Int) := od
                        obtain ⟨ad531, e531, hx531_0⟩ := Kd.at_int (Kd.R_reads' HO_92.out).2.2 x94_4 p531 q531
                        cases e531
                        replace p531 := eq_true p531
                        replace q531 := eq_true q531
                        obtain ⟨Ao67, co67, eo67⟩ := Kd.R_slice HO_16.out
                        subst eo67
                        have p532 : 0 ≤ (x94_4 : Int) := od
                        have q532 : x94_4 < (t525.length : Int) := od
                        obtain ⟨ad532, e532, hx532_0⟩ := Kd.at_int (Kd.R_reads' HO_16.out).2.2 x94_4 p532 q532
                        cases e532
                        replace p532 := eq_true p532
                        replace q532 := eq_true q532
                        have p66 : 0 ≤ ((rd t528 x94_4) : Int) := od
                        have q66 : ((rd t528 x94_4) : Int) < ((x10_4.length : Int) : Int) := od
                        obtain ⟨go66, co66, eo66, gb66, gl66, cl66, HG66⟩ := Kd.R_form HO_10.out (by omega)
                        (first | cases eo66 | (injection eo66 with ea_ en_ ec_; (first | subst ea_ | (injection ea_ with ea_; subst ea_)); subst ec_; clear en_))
                        have GB66 := Aside0.mk gb66
                        have GG66 := Aside0.mk HG66
                        clear gb66 gl66 HG66
                        obtain ⟨hx66_0, hf66_0⟩ := Kd.R_celln 0 HO_10.out ((rd t528 x94_4) : Int) p66 q66
                        replace p66 := eq_true p66
                        replace q66 := eq_true q66
                        have HP68 := Kd.R_putg HO_10.out ((rd t528 x94_4) : Int) (rd t525 x94_4)
                        go_wp2_with (first | ((with_reducible refine gate_store (t := 3) (p := 105) rfl ?_); refine store_event (t := 3) (p := 105) (v := ?vo_w69) (w1 := (wr.setCell ⟨go66, ((rd t528 x94_4) : Int).toNat, none⟩ (.int .i64 (rd t525 x94_4)))) ?hg ?ho ?hn ?hr ?_; (case ho => rfl); (case hg => rfl); (case hn => rfl); (case hr => first | (go_simp; done) | (go_simp; rfl)); intro w69 hw; have hg : wr.grownBy w69 (some go66) := (by rw [hw]; exact HP68.2); have hp_ : Kd.R (Kd.int .i64) 3 w69 w.heap.size (fun k_ => some k_ ≠ (.slice (some ad532) t525.length co67 : Value).ownBlock ∧ some k_ ≠ (.slice (some ad531) t528.length co59 : Value).ownBlock) (.slice (some ⟨go66, 0, none⟩) x10_4.length co66) y533 := (by rw [hw, Ny533.out]; exact HP68.1); clear HP68; replace HO_16 := Aside0.mk (Kd.R_after (v := (.slice (some ⟨go66, 0, none⟩) x10_4.length co66)) (v1 := (.slice (some ⟨go66, 0, none⟩) x10_4.length co66)) (ok := (fun k_ => some k_ ≠ (.slice (some ad531) t528.length co59 : Value).ownBlock)) (ro (Kd.R_mono HO_16.out (fun _ hk => ⟨hk.2, hk.1⟩))) hg (.inl rfl)); replace HO_92 := Aside0.mk (Kd.R_after (v := (.slice (some ⟨go66, 0, none⟩) x10_4.length co66)) (v1 := (.slice (some ⟨go66, 0, none⟩) x10_4.length co66)) (ok := (fun k_ => some k_ ≠ (.slice (some ad532) t525.length co67 : Value).ownBlock)) (ro (Kd.R_mono HO_92.out (fun _ hk => ⟨hk.2, hk.1⟩))) hg (.inl rfl)); replace BK494 := Aside0.mk (blk_grown (bt BK494) hg (Kd.R_ne HO_10.out BK494.out (by decide))); replace HO_10 := Aside0.mk (hp_); replace HB := Aside0.mk ((by rw [hw]; exact below_set (HB.out) GB66.out : Below w.heap.size w w69)); clear hg hw hp_))
                        go_roundg k4
                        case measure => have := HJ2.out; have := HK2.out; have := HK3.out; have := HK4.out; omega
                        case rel => exact ⟨(y533), (wrap64 (x94_4 + 1)), rv, H', ⟨by have := HJ2.out; have := HK2.out; have := HK3.out; have := HK4.out; omega⟩, ⟨by (try simp only [hl12_3]); (with_reducible repeat (first | apply Kd.R_alloc | apply Kd.R_drewN | apply Kd.R_drew)); exact HO_10.out⟩, ⟨by (try simp only [hl12_3]); (with_reducible repeat (first | apply Kd.R_alloc | apply Kd.R_drewN | apply Kd.R_drew)); exact Kd.R_mono HO_16.out (fun _ hk => ⟨hk.2, hk.1⟩)⟩, ⟨by (try simp only [hl12_3]); (with_reducible repeat (first | apply Kd.R_alloc | apply Kd.R_drewN | apply Kd.R_drew)); exact Kd.R_mono HO_92.out (fun _ hk => ⟨hk.2, hk.1⟩)⟩, ⟨by (try simp only [hl12_3]); (with_reducible repeat (first | refine blk_drewN ?_ _ | refine blk_drew ?_ | refine blk_alloc ?_ _)); exact BK494.out⟩, bh HB⟩
                       ·rw [if_neg c65] at H
                        exact absurd H (by simp)
                      ·rw [if_neg c64] at H
                       exact absurd H (by simp)
                     ·rw [if_neg c63] at H
                      exact absurd H (by simp)
                    ·rw [if_neg c62] at H
                     exact absurd H (by simp)
                   ·rw [if_neg c61] at H
                    exact absurd H (by simp)
                  ·rw [if_neg c60] at H
                   have c60b0 := decide_eq_false c60
                   (try (have c60b0h := c60b0; simp only [hl12_3] at c60b0h))
                   clear c60
                   have H' := Aside0.mk H
                   clear H
                   go_wp2
                   (try simp only [← hl12_3])
                   go_roundg k4
                   case measure => have := HJ2.out; have := HK2.out; have := HK3.out; have := HK4.out; omega
                   case rel => exact ⟨(x10_4), (wrap64 (x59_2 + 1)), rv, H', ⟨by have := HJ2.out; have := HK2.out; have := HK3.out; have := HK4.out; omega⟩, ⟨by (try simp only [hl12_3]); (with_reducible repeat (first | apply Kd.R_alloc | apply Kd.R_drewN | apply Kd.R_drew)); exact Kd.R_mono HO_10.out (fun _ hk => trivial)⟩, ⟨by (try simp only [hl12_3]); (with_reducible repeat (first | refine blk_drewN ?_ _ | refine blk_drew ?_ | refine blk_alloc ?_ _)); exact BK494.out⟩, bh HB⟩
            ·rw [if_neg c41] at H
             exact absurd H (by simp)
           ·rw [if_neg c40] at H
            exact absurd H (by simp)
          ·rw [if_neg c39] at H
           exact absurd H (by simp)
         ·rw [if_neg c37] at H
          have c37b0 := decide_eq_false c37
          clear c37
          simp only [Option.some.injEq, Prod.mk.injEq] at H
          obtain ⟨rfl, rfl⟩ := H
          go_wp2
          go_ret2
          exact ⟨_, re, ro HO_10.out, bo HB⟩
      ·rw [if_neg c33] at H
       exact absurd H (by simp)

end Go.Proofs.Ytnaccgommclhaaa.QFnExactSquareDots
