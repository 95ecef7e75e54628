/- What the law reaches, as plain functions, each with the proof that its call comes to its answer: written by a program for this claim. -/
import Derived.Test.YtnaccgommclhaaaQFnExactSquareDotsx0
import Derived.Test.YtnaccgommclhaaaQFnExactSquareDotsx14
import Derived.Test.YtnaccgommclhaaaUFnExactSquareDotsV5
namespace Go.Proofs.Ytnaccgommclhaaa.QFnExactSquareDots
open Go.RowKit Go.Proofs.YtnaccgommclhaaaW.PrintWords Go.Proofs.YtnaccgommclhaaaW.PrintLast Go.Proofs.YtnaccgommclhaaaW.PrintMore Go.Proofs.YtnaccgommclhaaaV
attribute [local go_sem] max2_int min2_int max_two min_two max_three min_three max_four min_four   -- for this text's walks alone
set_option linter.unusedVariables false
set_option linter.unusedSimpArgs false
set_option maxHeartbeats 8000000
set_option maxRecDepth 100000

def impl_EdgesOk.l0 : Nat → List (List Int) → Int → Int → List Int → List Int → Int → Option (Bool)
 | 0, _, _, _, _, _, _ => none
 | k + 1, x9, x10, x11, x564000, x564001, x564002 => if x11 < x10 then (if 0 ≤ x11 then (if x11 < (x9.length : Int) then (if ((rd_L1 x9 x11).length : Int) > 0 then ((impl_areIn.f k (rd_L1 x9 x11) 8 0 255).bind fun t568 => (if t568 = true then (impl_EdgesOk.l0 k x9 x10 (wrap64 (x11 + 1)) x564000 x564001 x564002) else (some false))) else (impl_EdgesOk.l0 k x9 x10 (wrap64 (x11 + 1)) x564000 x564001 x564002)) else (none)) else (none)) else ((impl_within.f x564002 (-1) 255).bind fun t569 => (some t569))
def impl_EdgesOk.f (k : Nat) (l0_0 : List Int) (l0_1 : List Int) (a0_2 : Int) : Option (Bool) := (some (([l0_0, l0_1] : List (List Int)) : List (List Int))).bind fun y564 => (impl_EdgesOk.l0 k y564 (y564.length : Int) 0 l0_0 l0_1 a0_2)
theorem impl_EdgesOk.calls (k : Nat) (P0_0_ : Nat → Prop) (A0_0 : Option Addr) (c0_0 : Nat) (l0_0 : List Int) (P0_1_ : Nat → Prop) (A0_1 : Option Addr) (c0_1 : Nat) (l0_1 : List Int) (a0_2 : Int) (r : Bool) (w : World) (hs0_0 : Kd.V (Kd.int .i64) 3 w w.heap.size (fun k_ => P0_0_ k_) (.slice A0_0 l0_0.length c0_0) l0_0) (hs0_1 : Kd.V (Kd.int .i64) 3 w w.heap.size (fun k_ => P0_1_ k_) (.slice A0_1 l0_1.length c0_1) l0_1) (h : impl_EdgesOk.f k l0_0 l0_1 a0_2 = some r) :
  Calls Try.prog 120 #[.agg #[.slice A0_0 l0_0.length c0_0, .slice A0_1 l0_1.length c0_1, .int .i64 a0_2]] w fun e w' => e = .returned (.bool r) ∧ Below w.heap.size w w' := by
 have hu101 := Try.underlying101
 have HO0_0 := Aside0.mk (show Kd.V (Kd.int .i64) 3 w w.heap.size (fun k_ => ((P0_0_ k_ ∨ P0_1_ k_) ∨ w.heap.size ≤ k_)) (.slice A0_0 l0_0.length c0_0) l0_0 from Kd.V_mono hs0_0 (fun k_ hk => .inl (.inl hk)))
 have HO0_1 := Aside0.mk (show Kd.V (Kd.int .i64) 3 w w.heap.size (fun k_ => ((P0_0_ k_ ∨ P0_1_ k_) ∨ w.heap.size ≤ k_)) (.slice A0_1 l0_1.length c0_1) l0_1 from Kd.V_mono hs0_1 (fun k_ hk => .inl (.inr hk)))
 have HB := Aside0.mk (Below.refl w.heap.size w)
 have H := h
 clear h
 unfold impl_EdgesOk.f at H
 replace H := yl H
 obtain ⟨y564, Ny564, H⟩ := H
 have H' := Aside0.mk H
 clear H
 go_enter Try.func120, Try.ntmps120
 go_wp2_with (first | ((with_reducible refine gate_dst (N := 1) rfl ?_); refine bx 1 #[.slice A0_0 l0_0.length c0_0, .slice A0_1 l0_1.length c0_1, .int .i64 a0_2] 101 ?_; intro gb563 hg w2 BK563 hb; have GW563 := ge HB hg; have GE563 := ge HB hg; replace HO0_0 := Aside0.mk (Kd.V_below (Kd.V_elderB (by (with_reducible repeat (first | apply Kd.V_alloc | apply Kd.V_drewN | apply Kd.V_drew)); exact HO0_0.out) gb563 (Nat.le_of_eq hg.symm)) hb); replace HO0_1 := Aside0.mk (Kd.V_below (Kd.V_elderB (by (with_reducible repeat (first | apply Kd.V_alloc | apply Kd.V_drewN | apply Kd.V_drew)); exact HO0_1.out) gb563 (Nat.le_of_eq hg.symm)) hb); replace HB := bs HB hb; clear hb hg; obtain ⟨hcz3_0, hcz3_1, hcz3_2, hfz3_0, hfz3_1, hfz3_2⟩ := cl3 BK563) | ((with_reducible refine gate_dst (N := 9) rfl ?_); refine Kd.N_lit (Kd.slice 3 (Kd.int .i64)) _ 35 ?hg (N' := 9) ?hd (xs := ([l0_0, l0_1] : List (List Int))) (inner := [.slice A0_0 l0_0.length c0_0, .slice A0_1 l0_1.length c0_1]) (ok := (fun k_ => ((P0_0_ k_ ∨ P0_1_ k_) ∨ w.heap.size ≤ k_) ∧ k_ ≠ gb563)) (okp := (fun k_ => ((P0_0_ k_ ∨ P0_1_ k_) ∨ w.heap.size ≤ k_) ∧ k_ ≠ gb563)) ?hr ?hp (fun _ hk => hk) ((show ∀ k_, w2.heap.size ≤ k_ → (fun k_ => ((P0_0_ k_ ∨ P0_1_ k_) ∨ w.heap.size ≤ k_) ∧ k_ ≠ gb563) k_ from fun k_ hk => ⟨(.inr (Nat.le_trans (below_size (bo HB)) hk)), Kd.freshB (g := gb563) (o := .cells #[.slice A0_0 l0_0.length c0_0, .slice A0_1 l0_1.length c0_1, .int .i64 a0_2] 101 (0, 0)) (bt BK563) k_ hk⟩) _ (Nat.le_refl _)) (Below.refl _ _) (Nat.le_refl _) (by simp) ?_; (case hd => rfl); (case hg => rfl); (case hr => first | (go_simp; done) | (go_simp; rfl)); (case hp => exact (Reps.one (show Kd.FK (Kd.slice 3 (Kd.int .i64)) _ _ l0_0 [.slice A0_0 l0_0.length c0_0] from (Kd.FK_slice_mk (Kd.V_reads' (Kd.V_mono (ok' := (fun k_ => ((P0_0_ k_ ∨ P0_1_ k_) ∨ w.heap.size ≤ k_) ∧ k_ ≠ gb563)) (HO0_0.out) (fun k_ hk => ⟨hk.1, hk.2⟩))).2.1 (Kd.V_F (Kd.V_mono (ok' := (fun k_ => ((P0_0_ k_ ∨ P0_1_ k_) ∨ w.heap.size ≤ k_) ∧ k_ ≠ gb563)) (HO0_0.out) (fun k_ hk => ⟨hk.1, hk.2⟩))))) (Reps.one (show Kd.FK (Kd.slice 3 (Kd.int .i64)) _ _ l0_1 [.slice A0_1 l0_1.length c0_1] from (Kd.FK_slice_mk (Kd.V_reads' (Kd.V_mono (ok' := (fun k_ => ((P0_0_ k_ ∨ P0_1_ k_) ∨ w.heap.size ≤ k_) ∧ k_ ≠ gb563)) (HO0_1.out) (fun k_ hk => ⟨hk.1, hk.2⟩))).2.1 (Kd.V_F (Kd.V_mono (ok' := (fun k_ => ((P0_0_ k_ ∨ P0_1_ k_) ∨ w.heap.size ≤ k_) ∧ k_ ≠ gb563)) (HO0_1.out) (fun k_ hk => ⟨hk.1, hk.2⟩))))) (Reps.none _ _)))); intro v565 w4 ho5 hb hg_ hnew_; clear hg_ hnew_; (first | rw [← Ny564.out] at ho5 | (simp only [Int.reduceToNat] at ho5; rw [← Ny564.out] at ho5)); have HO566 := Aside0.mk (Kd.N_lower ho5 (below_size (bo HB))); replace HO0_0 := Aside0.mk (Kd.V_elder' (by (with_reducible repeat (first | apply Kd.V_alloc | apply Kd.V_drewN | apply Kd.V_drew)); exact HO0_0.out) (Kd.N_base ho5) hb); replace HO0_1 := Aside0.mk (Kd.V_elder' (by (with_reducible repeat (first | apply Kd.V_alloc | apply Kd.V_drewN | apply Kd.V_drew)); exact HO0_1.out) (Kd.N_base ho5) hb); replace BK563 := bb BK563 hb; replace HB := bs HB hb; clear hb ho5; obtain ⟨Ao6, co6, eo6⟩ := Kd.N_slice HO566.out; subst eo6))
 go_loopg [11] k (fun kq v11 w' => ∃ (x11_1 : Int), v11 = .int .i64 x11_1 ∧ Aside0 (impl_EdgesOk.l0 kq y564 (y564.length : Int) x11_1 l0_0 l0_1 a0_2 = some r) ∧ Aside0 (kq ≤ k) ∧ Aside0 (Kd.N (Kd.slice 3 (Kd.int .i64)) 35 w' w.heap.size (fun k_ => ((P0_0_ k_ ∨ P0_1_ k_) ∨ w.heap.size ≤ k_) ∧ k_ ≠ gb563) (.slice Ao6 y564.length co6) y564) ∧ Aside0 (Kd.V (Kd.int .i64) 3 w' w.heap.size (fun k_ => ((P0_0_ k_ ∨ P0_1_ k_) ∨ w.heap.size ≤ k_) ∧ some k_ ≠ ((.slice Ao6 y564.length co6) : Value).ownBlock ∧ k_ ≠ gb563) (.slice A0_0 l0_0.length c0_0) l0_0) ∧ Aside0 (Kd.V (Kd.int .i64) 3 w' w.heap.size (fun k_ => ((P0_0_ k_ ∨ P0_1_ k_) ∨ w.heap.size ≤ k_) ∧ some k_ ≠ ((.slice Ao6 y564.length co6) : Value).ownBlock ∧ k_ ≠ gb563) (.slice A0_1 l0_1.length c0_1) l0_1) ∧ Aside0 (w'.heap[gb563]? = some (.cells #[(.slice A0_0 l0_0.length c0_0), (.slice A0_1 l0_1.length c0_1), .int .i64 a0_2] 101 (0, 0))) ∧ Aside0 (Below w.heap.size w w'))
 case atStart => exact ⟨(0), rv, H', ⟨Nat.le_refl _⟩, ⟨by (with_reducible repeat (first | apply Kd.N_alloc | apply Kd.N_drewN | apply Kd.N_drew)); exact HO566.out⟩, ⟨by (with_reducible repeat (first | apply Kd.V_alloc | apply Kd.V_drewN | apply Kd.V_drew)); exact Kd.V_mono HO0_0.out (fun _ hk => ⟨hk.1.1, ⟨hk.2, hk.1.2⟩⟩)⟩, ⟨by (with_reducible repeat (first | apply Kd.V_alloc | apply Kd.V_drewN | apply Kd.V_drew)); exact Kd.V_mono HO0_1.out (fun _ hk => ⟨hk.1.1, ⟨hk.2, hk.1.2⟩⟩)⟩, bk BK563, bh HB⟩
 case round =>
  clear H'
  try clear hcz3_0 hcz3_1 hcz3_2 hfz3_0 hfz3_1 hfz3_2
  obtain ⟨x11_1, rfl, HA, HK1, HO_9, HO_564000, HO_564001, BK563, HB⟩ := hrel
  cases gk with
  | zero => exact absurd HA.out (by simp [impl_EdgesOk.l0])
  | succ k1 =>
   have H := HA.out
   clear HA
   simp only [impl_EdgesOk.l0] at H
   by_cases c7 : x11_1 < (y564.length : Int)
   ·rw [if_pos c7] at H
    have c7b0 := decide_eq_true c7
    clear c7
    by_cases c8 : 0 ≤ x11_1
    ·rw [if_pos c8] at H
     have c8b0 := decide_eq_true c8
     clear c8
     by_cases c9 : x11_1 < (y564.length : Int)
     ·rw [if_pos c9] at H
      have c9b0 := decide_eq_true c9
      clear c9
      by_cases c10 : ((rd_L1 y564 x11_1).length : Int) > 0
      ·rw [if_pos c10] at H
       have c10b0 : decide (0 < ((rd_L1 y564 x11_1).length : Int)) = true := decide_eq_true c10
       have c10b1 : decide (0 < (rd_L1 y564 x11_1).length) = true := decide_eq_true (by omega)
       clear c10
       replace H := bnd H
       obtain ⟨t568, A11, H⟩ := H
       by_cases c12 : t568 = true
       ·subst c12
        rw [if_pos rfl] at H
        have H' := Aside0.mk H
        clear H
        have p567 : 0 ≤ (x11_1 : Int) := od
        have q567 : x11_1 < (y564.length : Int) := od
        obtain ⟨ad567, A567_0, c567_0, e567, hx567_0, hl567_0, hi567_0⟩ := at_L1 (Kd.N_reads' HO_9.out).2.2 x11_1 p567 q567
        cases e567
        obtain ⟨ce567, hce567, hMe567, hcc567⟩ := Kd.N_get HO_9.out [] x11_1 p567 (by first | exact q567 | exact od | (have e_ := (Kd.N_reads' HO_9.out).1; omega))
        obtain ⟨ua567_0, uc567_0, rfl, ul567_0, ge567_0⟩ := Kd.FK_slice_open hMe567
        have hv567_0 := hcc567 0 _ rfl
        rw [Nat.add_zero, show ((Kd.slice 3 (Kd.int .i64))).sz = 1 from rfl, Nat.mul_one] at hv567_0
        replace hv567_0 := Option.some.inj (hv567_0.symm.trans hx567_0)
        injection hv567_0 with hva_ hvn_ hvc_
        rw [hva_] at ge567_0
        rw [hvc_] at ul567_0
        have HL567_0 := Aside0.mk (show Kd.V (Kd.int .i64) 3 _ w.heap.size _ _ (rd_L1 y564 x11_1) from Kd.V_mk ul567_0 ge567_0)
        clear hva_ hvn_ hvc_ ge567_0 ul567_0
        clear hcc567 hce567
        have HR567_0 := Aside0.mk hi567_0
        have HC567_0 := Aside0.mk hl567_0
        clear hi567_0 hl567_0
        replace p567 := eq_true p567
        replace q567 := eq_true q567
        go_wp2_with (first | (go_at_call 119; (with_reducible refine (impl_areIn.calls k1 _ _ (rd_L1 y564 x11_1) 8 0 255 true _ ?side1 ?side2 A11.out).mono ?_); (case side1 => repeat (first | exact (by repeat (first | (with_reducible exact HR567_0.out) | (with_reducible refine Kd.C_alloc ?_ _) | (with_reducible refine Kd.C_drewN ?_ _) | (with_reducible refine Kd.C_drew ?_) | exact HR567_0.out)) | (with_reducible refine Kd.C_alloc ?_ _) | (with_reducible refine Kd.C_drewN ?_ _) | (with_reducible refine Kd.C_drew ?_))); (case side2 => exact HC567_0.out); rintro e w' ⟨rfl, ⟨nd, rfl⟩⟩))
        go_roundg k1
        case measure => have := HK1.out; omega
        case rel => exact ⟨(wrap64 (x11_1 + 1)), rv, H', ⟨by have := HK1.out; omega⟩, ⟨by (with_reducible repeat (first | apply Kd.N_alloc | apply Kd.N_drewN | apply Kd.N_drew)); exact HO_9.out⟩, ⟨by (with_reducible repeat (first | apply Kd.V_alloc | apply Kd.V_drewN | apply Kd.V_drew)); exact HO_564000.out⟩, ⟨by (with_reducible repeat (first | apply Kd.V_alloc | apply Kd.V_drewN | apply Kd.V_drew)); exact HO_564001.out⟩, bk BK563, bh HB⟩
       ·replace c12 := Bool.eq_false_iff.mpr c12
        subst c12
        rw [if_neg nft] at H
        obtain rfl := Option.some.inj H
        have p567 : 0 ≤ (x11_1 : Int) := od
        have q567 : x11_1 < (y564.length : Int) := od
        obtain ⟨ad567, A567_0, c567_0, e567, hx567_0, hl567_0, hi567_0⟩ := at_L1 (Kd.N_reads' HO_9.out).2.2 x11_1 p567 q567
        cases e567
        obtain ⟨ce567, hce567, hMe567, hcc567⟩ := Kd.N_get HO_9.out [] x11_1 p567 (by first | exact q567 | exact od | (have e_ := (Kd.N_reads' HO_9.out).1; omega))
        obtain ⟨ua567_0, uc567_0, rfl, ul567_0, ge567_0⟩ := Kd.FK_slice_open hMe567
        have hv567_0 := hcc567 0 _ rfl
        rw [Nat.add_zero, show ((Kd.slice 3 (Kd.int .i64))).sz = 1 from rfl, Nat.mul_one] at hv567_0
        replace hv567_0 := Option.some.inj (hv567_0.symm.trans hx567_0)
        injection hv567_0 with hva_ hvn_ hvc_
        rw [hva_] at ge567_0
        rw [hvc_] at ul567_0
        have HL567_0 := Aside0.mk (show Kd.V (Kd.int .i64) 3 _ w.heap.size _ _ (rd_L1 y564 x11_1) from Kd.V_mk ul567_0 ge567_0)
        clear hva_ hvn_ hvc_ ge567_0 ul567_0
        clear hcc567 hce567
        have HR567_0 := Aside0.mk hi567_0
        have HC567_0 := Aside0.mk hl567_0
        clear hi567_0 hl567_0
        replace p567 := eq_true p567
        replace q567 := eq_true q567
        go_wp2_with (first | (go_at_call 119; (with_reducible refine (impl_areIn.calls k1 _ _ (rd_L1 y564 x11_1) 8 0 255 false _ ?side1 ?side2 A11.out).mono ?_); (case side1 => repeat (first | exact (by repeat (first | (with_reducible exact HR567_0.out) | (with_reducible refine Kd.C_alloc ?_ _) | (with_reducible refine Kd.C_drewN ?_ _) | (with_reducible refine Kd.C_drew ?_) | exact HR567_0.out)) | (with_reducible refine Kd.C_alloc ?_ _) | (with_reducible refine Kd.C_drewN ?_ _) | (with_reducible refine Kd.C_drew ?_))); (case side2 => exact HC567_0.out); rintro e w' ⟨rfl, ⟨nd, rfl⟩⟩))
        go_ret
        exact ⟨re, bo HB⟩
      ·rw [if_neg c10] at H
       have c10b0 : decide (0 < ((rd_L1 y564 x11_1).length : Int)) = false := decide_eq_false c10
       have c10b1 : decide (0 < (rd_L1 y564 x11_1).length) = false := decide_eq_false (by omega)
       clear c10
       have H' := Aside0.mk H
       clear H
       have p567 : 0 ≤ (x11_1 : Int) := od
       have q567 : x11_1 < (y564.length : Int) := od
       obtain ⟨ad567, A567_0, c567_0, e567, hx567_0, hl567_0, hi567_0⟩ := at_L1 (Kd.N_reads' HO_9.out).2.2 x11_1 p567 q567
       cases e567
       obtain ⟨ce567, hce567, hMe567, hcc567⟩ := Kd.N_get HO_9.out [] x11_1 p567 (by first | exact q567 | exact od | (have e_ := (Kd.N_reads' HO_9.out).1; omega))
       obtain ⟨ua567_0, uc567_0, rfl, ul567_0, ge567_0⟩ := Kd.FK_slice_open hMe567
       have hv567_0 := hcc567 0 _ rfl
       rw [Nat.add_zero, show ((Kd.slice 3 (Kd.int .i64))).sz = 1 from rfl, Nat.mul_one] at hv567_0
       replace hv567_0 := Option.some.inj (hv567_0.symm.trans hx567_0)
       injection hv567_0 with hva_ hvn_ hvc_
       rw [hva_] at ge567_0
       rw [hvc_] at ul567_0
       have HL567_0 := Aside0.mk (show Kd.V (Kd.int .i64) 3 _ w.heap.size _ _ (rd_L1 y564 x11_1) from Kd.V_mk ul567_0 ge567_0)
       clear hva_ hvn_ hvc_ ge567_0 ul567_0
       clear hcc567 hce567
       have HR567_0 := Aside0.mk hi567_0
       have HC567_0 := Aside0.mk hl567_0
       clear hi567_0 hl567_0
       replace p567 := eq_true p567
       replace q567 := eq_true q567
       go_wp2
       go_roundg k1
       case measure => have := HK1.out; omega
       case rel => exact ⟨(wrap64 (x11_1 + 1)), rv, H', ⟨by have := HK1.out; omega⟩, ⟨by (with_reducible repeat (first | apply Kd.N_alloc | apply Kd.N_drewN | apply Kd.N_drew)); exact HO_9.out⟩, ⟨by (with_reducible repeat (first | apply Kd.V_alloc | apply Kd.V_drewN | apply Kd.V_drew)); exact HO_564000.out⟩, ⟨by (with_reducible repeat (first | apply Kd.V_alloc | apply Kd.V_drewN | apply Kd.V_drew)); exact HO_564001.out⟩, bk BK563, bh HB⟩
     ·rw [if_neg c9] at H
      exact absurd H (by simp)
    ·rw [if_neg c8] at H
     exact absurd H (by simp)
   ·rw [if_neg c7] at H
    have c7b0 := decide_eq_false c7
    clear c7
    replace H := bnd H
    obtain ⟨t569, A13, H⟩ := H
    obtain rfl := Option.some.inj H
    obtain ⟨hcz14_0, hcz14_1, hcz14_2, hfz14_0, hfz14_1, hfz14_2⟩ := cl3 BK563
    go_wp2_with (first | ((with_reducible refine gate_callee (f := 55) rfl ?_); refine gD (some 26) Try.func55 #[.int .i64 a0_2, .int .i64 (-1), .int .i64 255] (impl_within.calls a0_2 (-1) 255 t569 _ A13.out) ?_; intro nd))
    go_ret
    exact ⟨re, bo HB⟩

def impl_sumOf.l0 : Nat → Int → List Int → Int → Int → Option (Int)
 | 0, _, _, _, _ => none
 | k + 1, x3, x6, x7, x8 => if x8 < x7 then (if 0 ≤ x8 then (if x8 < (x6.length : Int) then (impl_sumOf.l0 k (wrap64 (x3 + (rd x6 x8))) x6 x7 (wrap64 (x8 + 1))) else (none)) else (none)) else (some x3)
def impl_sumOf.f (k : Nat) (l0 : List Int) : Option (Int) := impl_sumOf.l0 k 0 l0 (l0.length : Int) 0
theorem impl_sumOf.calls (k : Nat) (A0 : Option Addr) (c0 : Nat) (l0 : List Int) (r : Int) (w : World) (hr0 : Kd.C (Kd.int .i64) w A0 l0.length l0) (hc0 : l0.length ≤ c0) (h : impl_sumOf.f k l0 = some r) :
  Calls Try.prog 121 #[.slice A0 l0.length c0] w fun e w' => e = .returned (.int .i64 r) ∧ Drawn0 w w' := by
 have HR0 := Aside0.mk hr0
 have HC0 := Aside0.mk hc0
 clear hr0 hc0
 have H := h
 clear h
 unfold impl_sumOf.f at H
 have H' := Aside0.mk H
 clear H
 go_enter Try.func121, Try.ntmps121
 go_wp2
 go_loopg [3, 8] k (fun kq v3 v8 w' => ∃ (x3_1 : Int) (x8_1 : Int), v3 = .int .i64 x3_1 ∧ v8 = .int .i64 x8_1 ∧ Aside0 (impl_sumOf.l0 kq x3_1 l0 (l0.length : Int) x8_1 = some r) ∧ Aside0 (kq ≤ k) ∧ Drawn0 w w')
 case atStart => exact ⟨(0), (0), rv, rv, H', ⟨Nat.le_refl _⟩, dr⟩
 case round =>
  clear H'
  obtain ⟨x3_1, x8_1, rfl, rfl, HA, HK1, ⟨m1, rfl⟩⟩ := hrel
  cases gk with
  | zero => exact absurd HA.out (by simp [impl_sumOf.l0])
  | succ k1 =>
   have H := HA.out
   clear HA
   simp only [impl_sumOf.l0] at H
   by_cases c2 : x8_1 < (l0.length : Int)
   ·rw [if_pos c2] at H
    have c2b0 := decide_eq_true c2
    clear c2
    by_cases c3 : 0 ≤ x8_1
    ·rw [if_pos c3] at H
     have c3b0 := decide_eq_true c3
     clear c3
     by_cases c4 : x8_1 < (l0.length : Int)
     ·rw [if_pos c4] at H
      have c4b0 := decide_eq_true c4
      clear c4
      have H' := Aside0.mk H
      clear H
      have p570 : 0 ≤ (x8_1 : Int) := od
      have q570 : x8_1 < (l0.length : Int) := od
      obtain ⟨ad570, e570, hx570_0⟩ := Kd.at_int HR0.out x8_1 p570 q570
      cases e570
      replace p570 := eq_true p570
      replace q570 := eq_true q570
      go_wp2
      go_roundg k1
      case measure => have := HK1.out; omega
      case rel => exact ⟨(wrap64 (x3_1 + (rd l0 x8_1))), (wrap64 (x8_1 + 1)), rv, rv, H', ⟨by have := HK1.out; omega⟩, dr⟩
     ·rw [if_neg c4] at H
      exact absurd H (by simp)
    ·rw [if_neg c3] at H
     exact absurd H (by simp)
   ·rw [if_neg c2] at H
    have c2b0 := decide_eq_false c2
    clear c2
    obtain rfl := Option.some.inj H
    go_wp2
    go_ret
    exact ⟨rv, dr⟩

def impl_orGrey.f (l0 : List Int) : Option (List Int) := if (l0.length : Int) = 0 then (some (([128, 128, 128, 128, 128, 128, 128, 128] : List Int))) else (some l0)
theorem impl_orGrey.calls (P0_ : Nat → Prop) (u9000_ : Value) (l0 : List Int) (r : List Int) (w0 w : World) (hB : Below w0.heap.size w0 w) (ho0 : Kd.R (Kd.int .i64) 3 w w0.heap.size P0_ u9000_ l0) (h : impl_orGrey.f l0 = some r) :
  Calls Try.prog 122 #[u9000_] w fun e w' => ∃ v0_ : Value, e = .returned (v0_) ∧ Kd.R (Kd.int .i64) 3 w' w0.heap.size (fun k_ => (P0_ k_ ∨ w.heap.size ≤ k_)) v0_ r ∧ Below w0.heap.size w0 w' ∧ Kept w w' (fun k_ => P0_ k_) := by
 have HO0 := Aside0.mk (show Kd.R (Kd.int .i64) 3 w w0.heap.size (fun k_ => (P0_ k_ ∨ w.heap.size ≤ k_)) u9000_ l0 from Kd.R_mono ho0 (fun k_ hk => (.inl hk)))
 have HK := Aside0.mk (Kept.refl w (fun k_ => P0_ k_))
 have HW0 := Aside0.mk hB.size
 have HB := Aside0.mk hB
 clear hB
 have H := h
 clear h
 unfold impl_orGrey.f at H
 by_cases c2 : (l0.length : Int) = 0
 ·rw [if_pos c2] at H
  obtain ⟨c2b0, c2b1⟩ := eqt c2
  clear c2
  obtain ⟨y571, hy571⟩ : ∃ y_ : List Int, y_ = (([128, 128, 128, 128, 128, 128, 128, 128] : List Int)) := ⟨_, rfl⟩
  replace H : (some y571) = some r := by subst hy571; exact H
  have Ny571 := Aside0.mk hy571
  clear hy571
  obtain rfl := Option.some.inj H
  obtain ⟨Ao3, co3, eo3⟩ := Kd.R_slice HO0.out
  subst eo3
  go_enter Try.func122, Try.ntmps122
  go_wp2_with (first | ((with_reducible refine gate_dst (N := 6) rfl ?_); refine Kd.R_lit (Kd.int .i64) _ 3 ?hg (N := 6) ?hd (xs := ([128, 128, 128, 128, 128, 128, 128, 128] : List Int)) (inner := [.int .i64 128, .int .i64 128, .int .i64 128, .int .i64 128, .int .i64 128, .int .i64 128, .int .i64 128, .int .i64 128]) (ok := fun _ => True) (okp := fun _ => True) ?hr ?hp (fun _ hk => hk) trivial (Below.refl _ _) (Nat.le_refl _) (by simp) ?_; (case hd => rfl); (case hg => rfl); (case hr => first | (go_simp; done) | (go_simp; rfl)); (case hp => exact (Reps.one (show Kd.M (Kd.int .i64) _ _ _ 128 [.int .i64 128] from rfl) (Reps.one (show Kd.M (Kd.int .i64) _ _ _ 128 [.int .i64 128] from rfl) (Reps.one (show Kd.M (Kd.int .i64) _ _ _ 128 [.int .i64 128] from rfl) (Reps.one (show Kd.M (Kd.int .i64) _ _ _ 128 [.int .i64 128] from rfl) (Reps.one (show Kd.M (Kd.int .i64) _ _ _ 128 [.int .i64 128] from rfl) (Reps.one (show Kd.M (Kd.int .i64) _ _ _ 128 [.int .i64 128] from rfl) (Reps.one (show Kd.M (Kd.int .i64) _ _ _ 128 [.int .i64 128] from rfl) (Reps.one (show Kd.M (Kd.int .i64) _ _ _ 128 [.int .i64 128] from rfl) (Reps.none _ _)))))))))); intro v572 w4 ho5 hb hg_ hnew_; clear hg_ hnew_; (first | rw [← Ny571.out] at ho5 | (simp only [Int.reduceToNat] at ho5; rw [← Ny571.out] at ho5)); have HO573 := Aside0.mk (Kd.R_lower (Kd.R_new' (Kd.R_newM (M := fun k_ => (P0_ k_ ∨ w.heap.size ≤ k_)) ho5 (by first | exact HK.out.1 | exact (show Kept w _ (fun k_ => P0_ k_) from by repeat (first | (with_reducible first | exact HK.out | apply Kept.alloc | apply Kept.drewN | apply Kept.drew) | exact HK.out)).1) (fun k_ h_ => .inr h_)) (Kd.R_lt (ro HO0.out))) (below_size (bo HB))); replace HO0 := Aside0.mk (Kd.R_elder' (ro HO0.out) (Kd.R_base ho5) hb); replace HK := Aside0.mk (Kept.below (S := (fun k_ => P0_ k_)) (by repeat (first | (with_reducible first | exact HK.out | apply Kept.alloc | apply Kept.drewN | apply Kept.drew) | exact HK.out)) hb); replace HB := bs HB hb; clear hb ho5))
  go_ret
  exact ⟨_, re, ro (Kd.R_mono HO573.out (fun _ hk => hk.1.1)), by repeat (first | (with_reducible first | exact HB.out | apply below_alloc | apply pw_below_drewN | apply below_drew1) | exact HB.out), by repeat (first | (with_reducible first | exact HK.out | apply Kept.alloc | apply Kept.drewN | apply Kept.drew) | exact HK.out)⟩
 ·rw [if_neg c2] at H
  obtain ⟨c2b0, c2b1⟩ := eqf c2
  have c2b2 : ¬ (l0 = []) := fun h_ => c2 (by rw [h_]; rfl)
  obtain rfl := Option.some.inj H
  obtain ⟨Ao6, co6, eo6⟩ := Kd.R_slice HO0.out
  subst eo6
  go_enter Try.func122, Try.ntmps122
  go_wp2
  go_ret
  exact ⟨_, re, ro HO0.out, by repeat (first | (with_reducible first | exact HB.out | apply below_alloc | apply pw_below_drewN | apply below_drew1) | exact HB.out), by repeat (first | (with_reducible first | exact HK.out | apply Kept.alloc | apply Kept.drewN | apply Kept.drew) | exact HK.out)⟩

end Go.Proofs.Ytnaccgommclhaaa.QFnExactSquareDots
