/- What the law reaches, as plain functions, each with the proof that its call comes to its answer: written by a program for this claim. -/
import Derived.Test.YtnaccgommclhaaaQFnExactSquareDotsx0
import Derived.Test.YtnaccgommclhaaaQFnExactSquareDotsx14
import Derived.Test.YtnaccgommclhaaaUFnExactSquareDotsV5
namespace Go.Proofs.Ytnaccgommclhaaa.QFnExactSquareDots
open Go.RowKit Go.Proofs.YtnaccgommclhaaaW.PrintWords Go.Proofs.YtnaccgommclhaaaW.PrintLast Go.Proofs.YtnaccgommclhaaaW.PrintMore Go.Proofs.YtnaccgommclhaaaV
attribute [local go_sem] max2_int min2_int max_two min_two max_three min_three max_four min_four   -- for this text's walks alone
set_option linter.unusedVariables false
set_option linter.unusedSimpArgs false
set_option maxHeartbeats 8000000
set_option maxRecDepth 100000

mutual
def impl_Joined.j0 : Nat → List Int → List Int → List Int → Bool → Option (List Int)
 | 0, _, _, _, _ => none
 | k + 1, x0, x1, x5, x16 => if x16 = true then (some x5) else (impl_Joined.l0 k x1 x5 x0 (x0.length : Int) 0)
def impl_Joined.l0 : Nat → List Int → List Int → List Int → Int → Int → Option (List Int)
 | 0, _, _, _, _, _ => none
 | k + 1, x1, x5, x18, x19, x20 => if x20 < x19 then (if 0 ≤ x20 then (if x20 < (x18.length : Int) then (if x20 < (x1.length : Int) then ((impl_Brought.f (wrap64 ((rd x18 x20) + (rd x1 x20))) 0 255).bind fun t541 => (if x5.length < 17592186044416 then (impl_Joined.l0 k x1 (x5 ++ [t541]) x18 x19 (wrap64 (x20 + 1))) else (none))) else (none)) else (none)) else (none)) else (some x5)
end
def impl_Joined.f (k : Nat) (l0 : List Int) (l1 : List Int) : Option (List Int) := (some (([] : List Int) : List Int)).bind fun y534 => ((impl_areIn.f k l0 64 0 255).bind fun t537 => (if t537 = true then ((impl_areIn.f k l1 64 (-10000000) 10000000).bind fun t538 => (impl_Joined.j0 k l0 l1 y534 (!t538))) else (impl_Joined.j0 k l0 l1 y534 true)))
theorem impl_Joined.calls (k : Nat) (A0 : Option Addr) (c0 : Nat) (l0 : List Int) (A1 : Option Addr) (c1 : Nat) (l1 : List Int) (r : List Int) (w : World) (hr0 : Kd.C (Kd.int .i64) w A0 l0.length l0) (hc0 : l0.length ≤ c0) (hr1 : Kd.C (Kd.int .i64) w A1 l1.length l1) (hc1 : l1.length ≤ c1) (h : impl_Joined.f k l0 l1 = some r) :
  Calls Try.prog 78 #[.slice A0 l0.length c0, .slice A1 l1.length c1] w fun e w' => ∃ v0_ : Value, e = .returned (v0_) ∧ Kd.R (Kd.int .i64) 3 w' w.heap.size (fun _ => True) v0_ r ∧ Below w.heap.size w w' := by
 have HR0 := Aside0.mk hr0
 have HC0 := Aside0.mk hc0
 clear hr0 hc0
 have HR1 := Aside0.mk hr1
 have HC1 := Aside0.mk hc1
 clear hr1 hc1
 have HB := Aside0.mk (Below.refl w.heap.size w)
 have H := h
 clear h
 unfold impl_Joined.f at H
 replace H := yl H
 obtain ⟨y534, Ny534, H⟩ := H
 have HC3 := Aside0.mk H
 clear H
 go_enter Try.func78, Try.ntmps78
 go_upto_region 2 with (first | ((with_reducible refine gate_dst (N := 8) rfl ?_); refine Kd.R_lit (Kd.int .i64) _ 3 ?hg (N := 8) ?hd (xs := ([] : List Int)) (inner := []) (ok := fun _ => True) (okp := fun _ => True) ?hr ?hp (fun _ hk => hk) trivial (Below.refl _ _) (Nat.le_refl _) (by simp) ?_; (case hd => rfl); (case hg => rfl); (case hr => first | (go_simp; done) | (go_simp; rfl)); (case hp => exact (Reps.none _ _)); intro v535 w4 ho5 hb hg_ hnew_; clear hg_ hnew_; (first | rw [← Ny534.out] at ho5 | (simp only [Int.reduceToNat] at ho5; rw [← Ny534.out] at ho5)); have HO536 := Aside0.mk (Kd.R_lower ho5 (below_size (bo HB))); replace HB := bs HB hb; clear hb ho5))
 (try simp only [Act.put, List.setIfInBounds_toArray, List.set_cons_zero, List.set_cons_succ])
 go_cut [16] (fun v16 wc => ∃ (kq : Nat) (x16_2 : Bool), v16 = .bool x16_2 ∧ Aside0 (impl_Joined.j0 kq l0 l1 y534 x16_2 = some r) ∧ Aside0 (kq ≤ k) ∧ Aside0 (Kd.R (Kd.int .i64) 3 wc w.heap.size (fun _ => True) v535 y534) ∧ Aside0 (Below w.heap.size w wc))
 case first =>
  have H := HC3.out
  clear HC3
  replace H := bnd H
  obtain ⟨t537, A6, H⟩ := H
  by_cases c7 : t537 = true
  ·subst c7
   rw [if_pos rfl] at H
   replace H := bnd H
   obtain ⟨t538, A8, H⟩ := H
   have H' := Aside0.mk H
   clear H
   go_wp2_with (first | ((with_reducible refine gate_callee (f := 119) rfl ?_); refine gD (some 10) Try.func119 #[.slice A0 l0.length c0, .int .i64 64, .int .i64 0, .int .i64 255] (impl_areIn.calls k _ _ l0 64 0 255 true _ ?side1 ?side2 A6.out) ?_; (case side1 => exact ca (Kd.C_below HR0.out HB.out)); (case side2 => exact HC0.out); intro nd) | (go_at_call 119; (with_reducible refine (impl_areIn.calls k _ _ l1 64 (-10000000) 10000000 t538 _ ?side1 ?side2 A8.out).mono ?_); (case side1 => exact ca (Kd.C_below HR1.out (bo HB))); (case side2 => exact HC1.out); rintro e w' ⟨rfl, ⟨nd, rfl⟩⟩))
   go_meet
   case rel => exact ⟨_, (!t538), rv, H', om, (ra HO536.out), bh HB⟩
  ·replace c7 := Bool.eq_false_iff.mpr c7
   subst c7
   rw [if_neg nft] at H
   have H' := Aside0.mk H
   clear H
   go_wp2_with (first | ((with_reducible refine gate_callee (f := 119) rfl ?_); refine gD (some 10) Try.func119 #[.slice A0 l0.length c0, .int .i64 64, .int .i64 0, .int .i64 255] (impl_areIn.calls k _ _ l0 64 0 255 false _ ?side1 ?side2 A6.out) ?_; (case side1 => exact ca (Kd.C_below HR0.out HB.out)); (case side2 => exact HC0.out); intro nd))
   go_meet
   case rel => exact ⟨_, (true), rv, H', om, (ra HO536.out), bh HB⟩
 case rest =>
  clear HC3
  obtain ⟨kq, x16_2, rfl, HA, HJ2, HO_5, HB⟩ := hcut
  cases kq with
  | zero => exact absurd HA.out (by simp [impl_Joined.j0])
  | succ kj2 =>
   have H := HA.out
   clear HA
   simp only [impl_Joined.j0] at H
   by_cases c9 : x16_2 = true
   ·subst c9
    rw [if_pos rfl] at H
    obtain rfl := Option.some.inj H
    go_wp2
    go_ret
    exact ⟨_, re, ro HO_5.out, bo HB⟩
   ·replace c9 := Bool.eq_false_iff.mpr c9
    subst c9
    rw [if_neg nft] at H
    have H' := Aside0.mk H
    clear H
    go_wp2
    go_loopg [5, 20] kj2 (fun kq v5 v20 w' => ∃ (x5_2 : List Int) (x20_2 : Int), v20 = .int .i64 x20_2 ∧ Aside0 (impl_Joined.l0 kq l1 x5_2 l0 (l0.length : Int) x20_2 = some r) ∧ Aside0 (kq ≤ kj2) ∧ Aside0 (Kd.R (Kd.int .i64) 3 w' w.heap.size (fun _ => True) v5 x5_2) ∧ Aside0 (Below w.heap.size w w'))
    case atStart => exact ⟨(y534), (0), rv, H', ⟨Nat.le_refl _⟩, (ra HO_5.out), bh HB⟩
    case round =>
     clear H'
     obtain ⟨x5_2, x20_2, rfl, HA, HK2, HO_5, HB⟩ := hrel
     cases gk with
     | zero => exact absurd HA.out (by simp [impl_Joined.l0])
     | succ k2 =>
      have H := HA.out
      clear HA
      simp only [impl_Joined.l0] at H
      by_cases c10 : x20_2 < (l0.length : Int)
      ·rw [if_pos c10] at H
       have c10b0 := decide_eq_true c10
       clear c10
       by_cases c11 : 0 ≤ x20_2
       ·rw [if_pos c11] at H
        have c11b0 := decide_eq_true c11
        clear c11
        by_cases c12 : x20_2 < (l0.length : Int)
        ·rw [if_pos c12] at H
         have c12b0 := decide_eq_true c12
         clear c12
         by_cases c13 : x20_2 < (l1.length : Int)
         ·rw [if_pos c13] at H
          have c13b0 := decide_eq_true c13
          clear c13
          replace H := bnd H
          obtain ⟨t541, A14, H⟩ := H
          by_cases c15 : x5_2.length < 17592186044416
          ·rw [if_pos c15] at H
           have LMc15 := Aside0.mk c15
           clear c15
           obtain ⟨y542, hy542⟩ : ∃ y_ : List Int, y_ = (x5_2 ++ [t541]) := ⟨_, rfl⟩
           replace H : (impl_Joined.l0 k2 l1 y542 l0 (l0.length : Int) (wrap64 (x20_2 + 1))) = some r := by subst hy542; exact H
           have Ny542 := Aside0.mk hy542
           clear hy542
           have H' := Aside0.mk H
           clear H
           have p539 : 0 ≤ (x20_2 : Int) := od
           have q539 : x20_2 < (l0.length : Int) := od
           obtain ⟨ad539, e539, hx539_0⟩ := Kd.at_int HR0.out x20_2 p539 q539
           cases e539
           replace hx539_0 := (HB.out.cell (World.block_lt_of_cell? w _ hx539_0)).trans hx539_0
           replace p539 := eq_true p539
           replace q539 := eq_true q539
           have p540 : 0 ≤ (x20_2 : Int) := od
           have q540 : x20_2 < (l1.length : Int) := od
           obtain ⟨ad540, e540, hx540_0⟩ := Kd.at_int HR1.out x20_2 p540 q540
           cases e540
           replace hx540_0 := (HB.out.cell (World.block_lt_of_cell? w _ hx540_0)).trans hx540_0
           replace p540 := eq_true p540
           replace q540 := eq_true q540
           go_wp2_with (first | ((with_reducible refine gate_callee (f := 88) rfl ?_); refine gL (some 32) Try.func88 #[.int .i64 (wrap64 ((rd l0 x20_2) + (rd l1 x20_2))), .int .i64 0, .int .i64 255] ?_ (hargs := (by (try simp only [List.map_toArray, List.map_cons, List.map_nil]); first | done | rfl | (rw [show (wrap64 ((rd l0 x20_2) + (rd l1 x20_2))) = ((rd l0 x20_2) + (rd l1 x20_2)) from by unfold wrap64; omega]; rfl) | (simp only [List.length_drop, List.length_take]; rfl))); (with_reducible refine (impl_Brought.calls (wrap64 ((rd l0 x20_2) + (rd l1 x20_2))) 0 255 t541 _ A14.out).mono ?_); rintro e w16 ⟨rfl, hb⟩; refine ⟨_, rfl, ?_⟩; replace HO_5 := Aside0.mk (Kd.R_below (ro HO_5.out) hb); replace HB := bs HB hb; (try clear hb)) | ((with_reducible refine gate_builtin (b := .append) (xs := #[.tmp 25, .tmp 33]) rfl ?_); at_builtin; refine Kd.R_append (Kd.int .i64) (w0 := w) w.heap.size rfl (.tmp 25) (.tmp 33) 35 3 (.int .i64 0) 8 rfl Try.underlying35 info3 rfl (by decide) (by omega) u5 x5_2 t541 [.int .i64 t541] (fun _ => True) (fun _ => False) rfl rfl ?aP (fun _ hk => hk.elim) ?aF ?aO ?aB ?aS ?aL ?_; (case aP => exact rfl); (case aB => exact (bo HB)); (case aF => exact (fun _ _ => trivial)); (case aO => exact (ro HO_5.out)); (case aS => exact (below_size (bo HB))); (case aL => have := LMc15.out; omega); intro v543 w17 ho hb hg hat; rw [← Ny542.out] at ho; have HO544 := Aside0.mk (ho); replace HB := Aside0.mk (hb); clear HO_5; clear ho hb hg hat))
           go_roundg k2
           case measure => have := HJ2.out; have := HK2.out; omega
           case rel => exact ⟨(y542), (wrap64 (x20_2 + 1)), rv, H', ⟨by have := HJ2.out; have := HK2.out; omega⟩, (ra HO544.out), bh HB⟩
          ·rw [if_neg c15] at H
           exact absurd H (by simp)
         ·rw [if_neg c13] at H
          exact absurd H (by simp)
        ·rw [if_neg c12] at H
         exact absurd H (by simp)
       ·rw [if_neg c11] at H
        exact absurd H (by simp)
      ·rw [if_neg c10] at H
       have c10b0 := decide_eq_false c10
       clear c10
       obtain rfl := Option.some.inj H
       go_wp2
       go_ret
       exact ⟨_, re, ro HO_5.out, bo HB⟩

end Go.Proofs.Ytnaccgommclhaaa.QFnExactSquareDots
