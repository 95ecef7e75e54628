/- What the law reaches, as plain functions, each with the proof that its call comes to its answer: written by a program for this claim. -/
import Derived.Test.YtnaccgommclhaaaQFnExactSquareDotsx0
import Derived.Test.YtnaccgommclhaaaQFnExactSquareDotsx1
import Derived.Test.YtnaccgommclhaaaQFnExactSquareDotsx6
import Derived.Test.YtnaccgommclhaaaQFnExactSquareDotsx7
import Derived.Test.YtnaccgommclhaaaUFnExactSquareDotsV5
namespace Go.Proofs.Ytnaccgommclhaaa.QFnExactSquareDots
open Go.RowKit Go.Proofs.YtnaccgommclhaaaW.PrintWords Go.Proofs.YtnaccgommclhaaaW.PrintLast Go.Proofs.YtnaccgommclhaaaW.PrintMore Go.Proofs.YtnaccgommclhaaaV
attribute [local go_sem] max2_int min2_int max_two min_two max_three min_three max_four min_four   -- for this text's walks alone
set_option linter.unusedVariables false
set_option linter.unusedSimpArgs false
set_option maxHeartbeats 8000000
set_option maxRecDepth 100000

def spec_FourBack.l0 : Nat → List Int → Int → Option (List Int)
 | 0, _, _ => none
 | k + 1, x3, x4 => if x4 < 16 then (if 0 ≤ x4 then (if x4 < (x3.length : Int) then ((spec_l09Down.f (wrap64 ((rd x3 x4) + 32)) 64).bind fun t242 => (spec_FourBack.l0 k (x3.set (x4 : Int).toNat t242) (wrap64 (x4 + 1)))) else (none)) else (none)) else (some x3)
def spec_FourBack.f (k : Nat) (l0 : List Int) : Option (List Int) := (spec_l09All.f k l0 16 10000000).bind fun t225 => (if t225 = true then ((spec_l09Backs.f k l0).bind fun t229 => ((spec_l09Flip.f k t229).bind fun t232 => ((spec_l09Backs.f k t232).bind fun t235 => ((spec_l09Flip.f k t235).bind fun t238 => (spec_FourBack.l0 k t238 0))))) else (some (([] : List Int))))
theorem spec_FourBack.calls (k : Nat) (A0 : Option Addr) (c0 : Nat) (l0 : List Int) (r : List Int) (w : World) (hr0 : Kd.C (Kd.int .i64) w A0 l0.length l0) (hc0 : l0.length ≤ c0) (h : spec_FourBack.f k l0 = some r) :
  Calls Try.prog 106 #[.slice A0 l0.length c0] w fun e w' => ∃ v0_ : Value, e = .returned (v0_) ∧ Kd.R (Kd.int .i64) 3 w' w.heap.size (fun _ => True) v0_ r ∧ Below w.heap.size w w' := by
 have HR0 := Aside0.mk hr0
 have HC0 := Aside0.mk hc0
 clear hr0 hc0
 have HB := Aside0.mk (Below.refl w.heap.size w)
 have H := h
 clear h
 unfold spec_FourBack.f at H
 replace H := bnd H
 obtain ⟨t225, A2, H⟩ := H
 by_cases c3 : t225 = true
 ·subst c3
  rw [if_pos rfl] at H
  replace H := bnd H
  obtain ⟨t229, A4, H⟩ := H
  replace H := bnd H
  obtain ⟨t232, A5, H⟩ := H
  replace H := bnd H
  obtain ⟨t235, A6, H⟩ := H
  replace H := bnd H
  obtain ⟨t238, A7, H⟩ := H
  have H' := Aside0.mk H
  clear H
  go_enter Try.func106, Try.ntmps106
  go_wp2_with (first | ((with_reducible refine gate_callee (f := 101) rfl ?_); refine gD (some 6) Try.func101 #[.slice A0 l0.length c0, .int .i64 16, .int .i64 10000000] (spec_l09All.calls k _ _ l0 16 10000000 true _ ?side1 ?side2 A2.out) ?_; (case side1 => exact ca (HR0.out)); (case side2 => exact HC0.out); intro nd) | ((with_reducible refine gate_callee (f := 146) rfl ?_); refine gL (some 10) Try.func146 #[.slice A0 l0.length c0] ?_; (with_reducible refine (spec_l09Backs.calls k _ _ l0 t229 _ ?side1 ?side2 A4.out).mono ?_); (case side1 => exact ca (HR0.out)); (case side2 => exact HC0.out); rintro e w8 ⟨v230, rfl, ho0, hb⟩; refine ⟨_, rfl, ?_⟩; have HO231 := Aside0.mk (Kd.R_lower ho0 (below_size (bo HB))); replace HB := bs HB hb; (try clear hb); (try clear ho0); obtain ⟨Ao9, co9, eo9⟩ := Kd.R_slice HO231.out; subst eo9) | ((with_reducible refine gate_callee (f := 145) rfl ?_); refine gL (some 11) Try.func145 #[.slice Ao9 t229.length co9] ?_; (with_reducible refine (spec_l09Flip.calls k _ _ t229 t232 _ ?side1 ?side2 A5.out).mono ?_); (case side1 => exact ca ((Kd.R_reads' HO231.out).2.2)); (case side2 => exact (Kd.R_reads' HO231.out).2.1); rintro e w10 ⟨v233, rfl, ho0, hb⟩; refine ⟨_, rfl, ?_⟩; have HO234 := Aside0.mk (Kd.R_lower (Kd.R_new' ho0 (Kd.R_lt (ro HO231.out))) (below_size (bo HB))); replace HO231 := Aside0.mk (Kd.R_elder' (ro HO231.out) (Kd.R_base ho0) hb); replace HB := bs HB hb; (try clear hb); (try clear ho0); obtain ⟨Ao11, co11, eo11⟩ := Kd.R_slice HO234.out; subst eo11) | ((with_reducible refine gate_callee (f := 146) rfl ?_); refine gL (some 12) Try.func146 #[.slice Ao11 t232.length co11] ?_; (with_reducible refine (spec_l09Backs.calls k _ _ t232 t235 _ ?side1 ?side2 A6.out).mono ?_); (case side1 => exact ca ((Kd.R_reads' HO234.out).2.2)); (case side2 => exact (Kd.R_reads' HO234.out).2.1); rintro e w12 ⟨v236, rfl, ho0, hb⟩; refine ⟨_, rfl, ?_⟩; have HO237 := Aside0.mk (Kd.R_lower (Kd.R_new' (Kd.R_new' ho0 (Kd.R_lt (ro HO231.out))) (Kd.R_lt (ro HO234.out))) (below_size (bo HB))); replace HO231 := Aside0.mk (Kd.R_elder' (ro HO231.out) (Kd.R_base ho0) hb); replace HO234 := Aside0.mk (Kd.R_elder' (ro HO234.out) (Kd.R_base ho0) hb); replace HB := bs HB hb; (try clear hb); (try clear ho0); obtain ⟨Ao13, co13, eo13⟩ := Kd.R_slice HO237.out; subst eo13) | ((with_reducible refine gate_callee (f := 145) rfl ?_); refine gL (some 13) Try.func145 #[.slice Ao13 t235.length co13] ?_; (with_reducible refine (spec_l09Flip.calls k _ _ t235 t238 _ ?side1 ?side2 A7.out).mono ?_); (case side1 => exact ca ((Kd.R_reads' HO237.out).2.2)); (case side2 => exact (Kd.R_reads' HO237.out).2.1); rintro e w14 ⟨v239, rfl, ho0, hb⟩; refine ⟨_, rfl, ?_⟩; have HO240 := Aside0.mk (Kd.R_lower (Kd.R_new' (Kd.R_new' (Kd.R_new' ho0 (Kd.R_lt (ro HO231.out))) (Kd.R_lt (ro HO234.out))) (Kd.R_lt (ro HO237.out))) (below_size (bo HB))); replace HO231 := Aside0.mk (Kd.R_elder' (ro HO231.out) (Kd.R_base ho0) hb); replace HO234 := Aside0.mk (Kd.R_elder' (ro HO234.out) (Kd.R_base ho0) hb); replace HO237 := Aside0.mk (Kd.R_elder' (ro HO237.out) (Kd.R_base ho0) hb); replace HB := bs HB hb; (try clear hb); (try clear ho0)))
  go_loopg [4] k (fun kq v4 w' => ∃ (x3_1 : List Int) (x4_1 : Int), v4 = .int .i64 x4_1 ∧ Aside0 (spec_FourBack.l0 kq x3_1 x4_1 = some r) ∧ Aside0 (kq ≤ k) ∧ Aside0 (Kd.R (Kd.int .i64) 3 w' w.heap.size (fun _ => True) v239 x3_1) ∧ Aside0 (Below w.heap.size w w'))
  case atStart => exact ⟨(t238), (0), rv, H', ⟨Nat.le_refl _⟩, (ra (Kd.R_mono HO240.out (fun _ hk => trivial))), bh HB⟩
  case round =>
   clear H'
   obtain ⟨x3_1, x4_1, rfl, HA, HK1, HO_3, HB⟩ := hrel
   cases gk with
   | zero => exact absurd HA.out (by simp [spec_FourBack.l0])
   | succ k1 =>
    have H := HA.out
    clear HA
    simp only [spec_FourBack.l0] at H
    by_cases c15 : x4_1 < 16
    ·rw [if_pos c15] at H
     have c15b0 := decide_eq_true c15
     clear c15
     by_cases c16 : 0 ≤ x4_1
     ·rw [if_pos c16] at H
      have c16b0 := decide_eq_true c16
      clear c16
      by_cases c17 : x4_1 < (x3_1.length : Int)
      ·rw [if_pos c17] at H
       have c17b0 := decide_eq_true c17
       clear c17
       replace H := bnd H
       obtain ⟨t242, A18, H⟩ := H
       obtain ⟨y243, hy243⟩ : ∃ y_ : List Int, y_ = (x3_1.set (x4_1 : Int).toNat t242) := ⟨_, rfl⟩
       replace H : (spec_FourBack.l0 k1 y243 (wrap64 (x4_1 + 1))) = some r := by subst hy243; exact H
       have Ny243 := Aside0.mk hy243
       clear hy243
       have H' := Aside0.mk H
       clear H
       obtain ⟨Ao20, co20, eo20⟩ := Kd.R_slice HO_3.out
       subst eo20
       have p241 : 0 ≤ (x4_1 : Int) := od
       have q241 : x4_1 < (x3_1.length : Int) := od
       obtain ⟨ad241, e241, hx241_0⟩ := Kd.at_int (Kd.R_reads' HO_3.out).2.2 x4_1 p241 q241
       cases e241
       replace p241 := eq_true p241
       replace q241 := eq_true q241
       go_wp2_with (first | ((with_reducible refine gate_callee (f := 143) rfl ?_); refine gD (some 25) Try.func143 #[.int .i64 (wrap64 ((rd x3_1 x4_1) + 32)), .int .i64 64] (spec_l09Down.calls (wrap64 ((rd x3_1 x4_1) + 32)) 64 t242 _ A18.out) ?_ (hargs := (by (try simp only [List.map_toArray, List.map_cons, List.map_nil]); first | done | rfl | (rw [show (wrap64 ((rd x3_1 x4_1) + 32)) = ((rd x3_1 x4_1) + 32) from by unfold wrap64; omega]; rfl) | (simp only [List.length_drop, List.length_take]; rfl))); intro nd; (try (rw [drewN_self wr]; generalize hq_ : World.drewN wr _ = wr; have n0_ : Aside0 (Kd.R (Kd.int .i64) 3 wr w.heap.size (fun k_ => True) (.slice (some ad241) x3_1.length co20) x3_1) := ⟨by rw [← hq_]; exact (ro HO_3.out)⟩; have n1_ : Aside0 (Below w.heap.size w wr) := ⟨by rw [← hq_]; exact (bo HB)⟩; clear HO_3 HB hq_; have HO_3 := n0_; have HB := n1_; clear n0_ n1_)); have p19 : 0 ≤ (x4_1 : Int) := od; have q19 : (x4_1 : Int) < ((x3_1.length : Int) : Int) := od; obtain ⟨go19, co19, eo19, gb19, gl19, cl19, HG19⟩ := Kd.R_form HO_3.out (by omega); (first | cases eo19 | (injection eo19 with ea_ en_ ec_; (first | subst ea_ | (injection ea_ with ea_; subst ea_)); subst ec_; clear en_)); have GB19 := Aside0.mk gb19; have GG19 := Aside0.mk HG19; clear gb19 gl19 HG19; (first | simp only [add_plain] at hx241_0 | skip); obtain ⟨hx19_0, hf19_0⟩ := Kd.R_celln 0 HO_3.out (x4_1 : Int) p19 q19; replace p19 := eq_true p19; replace q19 := eq_true q19; obtain ⟨hy21_, hz21_⟩ := Kd.R_celln 0 HO_3.out (x4_1 : Int) (od) (od); have HP21 := Kd.R_putg HO_3.out (x4_1 : Int) t242) | ((with_reducible refine gate_store (t := 3) (p := 26) rfl ?_); refine store_event (t := 3) (p := 26) (v := ?vo_w22) (w1 := (wr.setCell ⟨go19, (x4_1 : Int).toNat, none⟩ (.int .i64 t242))) ?hg ?ho ?hn ?hr ?_; (case ho => rfl); (case hg => rfl); (case hn => rfl); (case hr => first | (go_simp; done) | (go_simp; rfl)); intro w22 hw; have hg : wr.grownBy w22 (some go19) := (by rw [hw]; exact HP21.2); have hp_ : Kd.R (Kd.int .i64) 3 w22 w.heap.size (fun _ => True) (.slice (some ⟨go19, 0, none⟩) x3_1.length co20) y243 := (by rw [hw, Ny243.out]; exact HP21.1); clear HP21; replace HO_3 := Aside0.mk (hp_); replace HB := Aside0.mk ((by rw [hw]; exact below_set (HB.out) GB19.out : Below w.heap.size w w22)); clear hg hw hp_))
       go_roundg k1
       case measure => have := HK1.out; omega
       case rel => exact ⟨(y243), (wrap64 (x4_1 + 1)), rv, H', ⟨by have := HK1.out; omega⟩, (ra HO_3.out), bh HB⟩
      ·rw [if_neg c17] at H
       exact absurd H (by simp)
     ·rw [if_neg c16] at H
      exact absurd H (by simp)
    ·rw [if_neg c15] at H
     have c15b0 := decide_eq_false c15
     clear c15
     obtain rfl := Option.some.inj H
     go_wp2
     go_ret
     exact ⟨_, re, ro HO_3.out, bo HB⟩
 ·replace c3 := Bool.eq_false_iff.mpr c3
  subst c3
  rw [if_neg nft] at H
  obtain ⟨y226, hy226⟩ : ∃ y_ : List Int, y_ = (([] : List Int)) := ⟨_, rfl⟩
  replace H : (some y226) = some r := by subst hy226; exact H
  have Ny226 := Aside0.mk hy226
  clear hy226
  obtain rfl := Option.some.inj H
  go_enter Try.func106, Try.ntmps106
  go_wp2_with (first | ((with_reducible refine gate_callee (f := 101) rfl ?_); refine gD (some 6) Try.func101 #[.slice A0 l0.length c0, .int .i64 16, .int .i64 10000000] (spec_l09All.calls k _ _ l0 16 10000000 false _ ?side1 ?side2 A2.out) ?_; (case side1 => exact ca (HR0.out)); (case side2 => exact HC0.out); intro nd) | ((with_reducible refine gate_dst (N := 8) rfl ?_); refine Kd.R_lit (Kd.int .i64) _ 3 ?hg (N := 8) ?hd (xs := ([] : List Int)) (inner := []) (ok := fun _ => True) (okp := fun _ => True) ?hr ?hp (fun _ hk => hk) trivial (Below.refl _ _) (Nat.le_refl _) (by simp) ?_; (case hd => rfl); (case hg => rfl); (case hr => first | (go_simp; done) | (go_simp; rfl)); (case hp => exact (Reps.none _ _)); intro v227 w23 ho24 hb hg_ hnew_; clear hg_ hnew_; (first | rw [← Ny226.out] at ho24 | (simp only [Int.reduceToNat] at ho24; rw [← Ny226.out] at ho24)); have HO228 := Aside0.mk (Kd.R_lower ho24 (below_size (bo HB))); replace HB := bs HB hb; clear hb ho24))
  go_ret
  exact ⟨_, re, ro HO228.out, bo HB⟩

end Go.Proofs.Ytnaccgommclhaaa.QFnExactSquareDots
