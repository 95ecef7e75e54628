/- What the law reaches, as plain functions, each with the proof that its call comes to its answer: written by a program for this claim. -/
import Derived.Test.YtnaccgommclhaaaQFnExactSquareDotsx0
import Derived.Test.YtnaccgommclhaaaQFnExactSquareDotsx1
import Derived.Test.YtnaccgommclhaaaQFnExactSquareDotsx2
import Derived.Test.YtnaccgommclhaaaUFnExactSquareDotsV5
namespace Go.Proofs.Ytnaccgommclhaaa.QFnExactSquareDots
open Go.RowKit Go.Proofs.YtnaccgommclhaaaW.PrintWords Go.Proofs.YtnaccgommclhaaaW.PrintLast Go.Proofs.YtnaccgommclhaaaW.PrintMore Go.Proofs.YtnaccgommclhaaaV
attribute [local go_sem] max2_int min2_int max_two min_two max_three min_three max_four min_four   -- for this text's walks alone
set_option linter.unusedVariables false
set_option linter.unusedSimpArgs false
set_option maxHeartbeats 8000000
set_option maxRecDepth 100000

mutual
def spec_BlockOf.j0 : Nat → Int → Int → List Int → Bool → Int → Int → ByteArray → Option (List Int)
 | 0, _, _, _, _, _, _, _ => none
 | k + 1, x1, x2, x7, x22, x326000, x326001, x326002 => if x22 = true then (some x7) else (spec_BlockOf.l0 k x1 x2 x7 0 x326000 x326001 x326002)
def spec_BlockOf.l0 : Nat → Int → Int → List Int → Int → Int → Int → ByteArray → Option (List Int)
 | 0, _, _, _, _, _, _, _ => none
 | k + 1, x1, x2, x7, x8, x326000, x326001, x326002 => if x8 < 64 then ((spec_DotAt.f k x326000 x326001 x326002 (wrap64 (x1 + (Int.tmod x8 8))) (wrap64 (x2 + (wrap64 (Int.tdiv x8 8))))).bind fun t332 => (if x7.length < 17592186044416 then (spec_BlockOf.l0 k x1 x2 (x7 ++ [t332]) (wrap64 (x8 + 1)) x326000 x326001 x326002) else (none))) else (some x7)
end
def spec_BlockOf.f (k : Nat) (a0_0 : Int) (a0_1 : Int) (a0_2 : ByteArray) (a1 : Int) (a2 : Int) : Option (List Int) := (some (([] : List Int) : List Int)).bind fun y326 => ((spec_PicOk.f a0_0 a0_1 a0_2).bind fun t329 => (if t329 = true then ((spec_l01In.f a1 (-1000) 1000).bind fun t330 => (if t330 = true then ((spec_l01In.f a2 (-1000) 1000).bind fun t331 => (spec_BlockOf.j0 k a1 a2 y326 (!t331) a0_0 a0_1 a0_2)) else (spec_BlockOf.j0 k a1 a2 y326 true a0_0 a0_1 a0_2))) else (spec_BlockOf.j0 k a1 a2 y326 true a0_0 a0_1 a0_2)))
theorem spec_BlockOf.calls (k : Nat) (a0_0 : Int) (a0_1 : Int) (a0_2 : ByteArray) (a1 : Int) (a2 : Int) (r : List Int) (w : World) (h : spec_BlockOf.f k a0_0 a0_1 a0_2 a1 a2 = some r) :
  Calls Try.prog 71 #[.agg #[.int .i64 a0_0, .int .i64 a0_1, .string a0_2], .int .i64 a1, .int .i64 a2] w fun e w' => ∃ v0_ : Value, e = .returned (v0_) ∧ Kd.R (Kd.int .i64) 3 w' w.heap.size (fun _ => True) v0_ r ∧ Below w.heap.size w w' := by
 have hu25 := Try.underlying25
 have HB := Aside0.mk (Below.refl w.heap.size w)
 have H := h
 clear h
 unfold spec_BlockOf.f at H
 replace H := yl H
 obtain ⟨y326, Ny326, H⟩ := H
 have HC4 := Aside0.mk H
 clear H
 go_enter Try.func71, Try.ntmps71
 go_upto_region 2 with (first | ((with_reducible refine gate_dst (N := 3) rfl ?_); refine bx 3 #[.int .i64 a0_0, .int .i64 a0_1, .string a0_2] 25 ?_; intro gb325 hg w5 BK325 hb; have GW325 := ge HB hg; have GE325 := ge HB hg; replace HB := bs HB hb; clear hb hg) | ((with_reducible refine gate_dst (N := 9) rfl ?_); refine Kd.R_lit (Kd.int .i64) _ 3 ?hg (N := 9) ?hd (xs := ([] : List Int)) (inner := []) (ok := fun _ => True) (okp := fun _ => True) ?hr ?hp (fun _ hk => hk) trivial (Below.refl _ _) (Nat.le_refl _) (by simp) ?_; (case hd => rfl); (case hg => rfl); (case hr => first | (go_simp; done) | (go_simp; rfl)); (case hp => exact (Reps.none _ _)); intro v327 w6 ho7 hb hg_ hnew_; clear hg_ hnew_; (first | rw [← Ny326.out] at ho7 | (simp only [Int.reduceToNat] at ho7; rw [← Ny326.out] at ho7)); have HO328 := Aside0.mk (Kd.R_lower ho7 (below_size (bo HB))); replace BK325 := bb BK325 hb; replace HB := bs HB hb; clear hb ho7))
 (try simp only [Act.put, List.setIfInBounds_toArray, List.set_cons_zero, List.set_cons_succ])
 go_cut [22] (fun v22 wc => ∃ (kq : Nat) (x22_3 : Bool), v22 = .bool x22_3 ∧ Aside0 (spec_BlockOf.j0 kq a1 a2 y326 x22_3 a0_0 a0_1 a0_2 = some r) ∧ Aside0 (kq ≤ k) ∧ Aside0 (Kd.R (Kd.int .i64) 3 wc w.heap.size (fun _ => True) v327 y326) ∧ Aside0 (wc.heap[gb325]? = some (.cells #[.int .i64 a0_0, .int .i64 a0_1, .string a0_2] 25 (0, 0))) ∧ Aside0 (Below w.heap.size w wc))
 case first =>
  have H := HC4.out
  clear HC4
  replace H := bnd H
  obtain ⟨t329, A8, H⟩ := H
  by_cases c9 : t329 = true
  ·subst c9
   rw [if_pos rfl] at H
   replace H := bnd H
   obtain ⟨t330, A10, H⟩ := H
   by_cases c11 : t330 = true
   ·subst c11
    rw [if_pos rfl] at H
    replace H := bnd H
    obtain ⟨t331, A12, H⟩ := H
    have H' := Aside0.mk H
    clear H
    obtain ⟨hcz13_0, hcz13_1, hcz13_2, hfz13_0, hfz13_1, hfz13_2⟩ := cl3 BK325
    go_wp2_with (first | ((with_reducible refine gate_callee (f := 41) rfl ?_); refine gL (some 11) Try.func41 #[.agg #[.int .i64 a0_0, .int .i64 a0_1, .string a0_2]] ?_; (with_reducible refine (spec_PicOk.calls a0_0 a0_1 a0_2 true _ A8.out).mono ?_); rintro e w14 ⟨rfl, hb⟩; refine ⟨_, rfl, ?_⟩; replace HO328 := Aside0.mk (Kd.R_below (ro HO328.out) hb); replace BK325 := bb BK325 hb; replace HB := bs HB hb; (try clear hb)) | (go_at_call 58; (with_reducible refine (spec_l01In.calls a1 (-1000) 1000 true _ A10.out).mono ?_); rintro e w' ⟨rfl, ⟨nd, rfl⟩⟩) | (go_at_call 58; (with_reducible refine (spec_l01In.calls a2 (-1000) 1000 t331 _ A12.out).mono ?_); rintro e w' ⟨rfl, ⟨nd, rfl⟩⟩))
    go_meet
    case rel => exact ⟨_, (!t331), rv, H', om, (ra HO328.out), bk BK325, bh HB⟩
   ·replace c11 := Bool.eq_false_iff.mpr c11
    subst c11
    rw [if_neg nft] at H
    have H' := Aside0.mk H
    clear H
    obtain ⟨hcz15_0, hcz15_1, hcz15_2, hfz15_0, hfz15_1, hfz15_2⟩ := cl3 BK325
    go_wp2_with (first | ((with_reducible refine gate_callee (f := 41) rfl ?_); refine gL (some 11) Try.func41 #[.agg #[.int .i64 a0_0, .int .i64 a0_1, .string a0_2]] ?_; (with_reducible refine (spec_PicOk.calls a0_0 a0_1 a0_2 true _ A8.out).mono ?_); rintro e w16 ⟨rfl, hb⟩; refine ⟨_, rfl, ?_⟩; replace HO328 := Aside0.mk (Kd.R_below (ro HO328.out) hb); replace BK325 := bb BK325 hb; replace HB := bs HB hb; (try clear hb)) | (go_at_call 58; (with_reducible refine (spec_l01In.calls a1 (-1000) 1000 false _ A10.out).mono ?_); rintro e w' ⟨rfl, ⟨nd, rfl⟩⟩))
    go_meet
    case rel => exact ⟨_, (true), rv, H', om, (ra HO328.out), bk BK325, bh HB⟩
  ·replace c9 := Bool.eq_false_iff.mpr c9
   subst c9
   rw [if_neg nft] at H
   have H' := Aside0.mk H
   clear H
   obtain ⟨hcz17_0, hcz17_1, hcz17_2, hfz17_0, hfz17_1, hfz17_2⟩ := cl3 BK325
   go_wp2_with (first | ((with_reducible refine gate_callee (f := 41) rfl ?_); refine gL (some 11) Try.func41 #[.agg #[.int .i64 a0_0, .int .i64 a0_1, .string a0_2]] ?_; (with_reducible refine (spec_PicOk.calls a0_0 a0_1 a0_2 false _ A8.out).mono ?_); rintro e w18 ⟨rfl, hb⟩; refine ⟨_, rfl, ?_⟩; replace HO328 := Aside0.mk (Kd.R_below (ro HO328.out) hb); replace BK325 := bb BK325 hb; replace HB := bs HB hb; (try clear hb)))
   go_meet
   case rel => exact ⟨_, (true), rv, H', om, (ra HO328.out), bk BK325, bh HB⟩
 case rest =>
  clear HC4
  try clear hcz13_0 hcz13_1 hcz13_2 hfz13_0 hfz13_1 hfz13_2
  try clear hcz15_0 hcz15_1 hcz15_2 hfz15_0 hfz15_1 hfz15_2
  try clear hcz17_0 hcz17_1 hcz17_2 hfz17_0 hfz17_1 hfz17_2
  obtain ⟨kq, x22_3, rfl, HA, HJ3, HO_7, BK325, HB⟩ := hcut
  cases kq with
  | zero => exact absurd HA.out (by simp [spec_BlockOf.j0])
  | succ kj3 =>
   have H := HA.out
   clear HA
   simp only [spec_BlockOf.j0] at H
   by_cases c19 : x22_3 = true
   ·subst c19
    rw [if_pos rfl] at H
    obtain rfl := Option.some.inj H
    go_wp2
    go_ret
    exact ⟨_, re, ro HO_7.out, bo HB⟩
   ·replace c19 := Bool.eq_false_iff.mpr c19
    subst c19
    rw [if_neg nft] at H
    have H' := Aside0.mk H
    clear H
    go_wp2
    go_loopg [7, 8] kj3 (fun kq v7 v8 w' => ∃ (x7_2 : List Int) (x8_2 : Int), v8 = .int .i64 x8_2 ∧ Aside0 (spec_BlockOf.l0 kq a1 a2 x7_2 x8_2 a0_0 a0_1 a0_2 = some r) ∧ Aside0 (kq ≤ kj3) ∧ Aside0 (Kd.R (Kd.int .i64) 3 w' w.heap.size (fun _ => True) v7 x7_2) ∧ Aside0 (w'.heap[gb325]? = some (.cells #[.int .i64 a0_0, .int .i64 a0_1, .string a0_2] 25 (0, 0))) ∧ Aside0 (Below w.heap.size w w'))
    case atStart => exact ⟨(y326), (0), rv, H', ⟨Nat.le_refl _⟩, (ra HO_7.out), bk BK325, bh HB⟩
    case round =>
     clear H'
     try clear hcz13_0 hcz13_1 hcz13_2 hfz13_0 hfz13_1 hfz13_2
     try clear hcz15_0 hcz15_1 hcz15_2 hfz15_0 hfz15_1 hfz15_2
     try clear hcz17_0 hcz17_1 hcz17_2 hfz17_0 hfz17_1 hfz17_2
     obtain ⟨x7_2, x8_2, rfl, HA, HK2, HO_7, BK325, HB⟩ := hrel
     cases gk with
     | zero => exact absurd HA.out (by simp [spec_BlockOf.l0])
     | succ k2 =>
      have H := HA.out
      clear HA
      simp only [spec_BlockOf.l0] at H
      by_cases c20 : x8_2 < 64
      ·rw [if_pos c20] at H
       have c20b0 := decide_eq_true c20
       clear c20
       replace H := bnd H
       obtain ⟨t332, A21, H⟩ := H
       by_cases c22 : x7_2.length < 17592186044416
       ·rw [if_pos c22] at H
        have LMc22 := Aside0.mk c22
        clear c22
        obtain ⟨y333, hy333⟩ : ∃ y_ : List Int, y_ = (x7_2 ++ [t332]) := ⟨_, rfl⟩
        replace H : (spec_BlockOf.l0 k2 a1 a2 y333 (wrap64 (x8_2 + 1)) a0_0 a0_1 a0_2) = some r := by subst hy333; exact H
        have Ny333 := Aside0.mk hy333
        clear hy333
        have H' := Aside0.mk H
        clear H
        obtain ⟨hcz23_0, hcz23_1, hcz23_2, hfz23_0, hfz23_1, hfz23_2⟩ := cl3 BK325
        go_wp2_with (first | ((with_reducible refine gate_callee (f := 87) rfl ?_); refine gL (some 38) Try.func87 #[.agg #[.int .i64 a0_0, .int .i64 a0_1, .string a0_2], .int .i64 (wrap64 (a1 + (Int.tmod x8_2 8))), .int .i64 (wrap64 (a2 + (wrap64 (Int.tdiv x8_2 8))))] ?_ (hargs := (by (try simp only [List.map_toArray, List.map_cons, List.map_nil]); first | done | rfl | (rw [show (wrap64 (a1 + (Int.tmod x8_2 8))) = (a1 + (Int.tmod x8_2 8)) from by unfold wrap64; omega, show (wrap64 (a2 + (wrap64 (Int.tdiv x8_2 8)))) = (a2 + (wrap64 (Int.tdiv x8_2 8))) from by unfold wrap64; omega]; rfl) | (simp only [List.length_drop, List.length_take]; rfl))); (with_reducible refine (spec_DotAt.calls k2 a0_0 a0_1 a0_2 (wrap64 (a1 + (Int.tmod x8_2 8))) (wrap64 (a2 + (wrap64 (Int.tdiv x8_2 8)))) t332 _ A21.out).mono ?_); rintro e w24 ⟨rfl, hb⟩; refine ⟨_, rfl, ?_⟩; replace HO_7 := Aside0.mk (Kd.R_below (ro HO_7.out) hb); replace BK325 := bb BK325 hb; replace HB := bs HB hb; (try clear hb)) | ((with_reducible refine gate_builtin (b := .append) (xs := #[.tmp 28, .tmp 39]) rfl ?_); at_builtin; refine Kd.R_append (Kd.int .i64) (w0 := w) w.heap.size rfl (.tmp 28) (.tmp 39) 35 3 (.int .i64 0) 8 rfl Try.underlying35 info3 rfl (by decide) (by omega) u7 x7_2 t332 [.int .i64 t332] (fun _ => True) (fun _ => False) rfl rfl ?aP (fun _ hk => hk.elim) ?aF ?aO ?aB ?aS ?aL ?_; (case aP => exact rfl); (case aB => exact (bo HB)); (case aF => exact (fun _ _ => trivial)); (case aO => exact (ro HO_7.out)); (case aS => exact (below_size (bo HB))); (case aL => have := LMc22.out; omega); intro v334 w25 ho hb hg hat; rw [← Ny333.out] at ho; have HO335 := Aside0.mk (ho); replace BK325 := Aside0.mk (blk_grown (bt BK325) hg (Kd.R_ne HO_7.out BK325.out (by decide))); replace HB := Aside0.mk (hb); clear HO_7; clear ho hb hg hat))
        go_roundg k2
        case measure => have := HJ3.out; have := HK2.out; omega
        case rel => exact ⟨(y333), (wrap64 (x8_2 + 1)), rv, H', ⟨by have := HJ3.out; have := HK2.out; omega⟩, (ra HO335.out), bk BK325, bh HB⟩
       ·rw [if_neg c22] at H
        exact absurd H (by simp)
      ·rw [if_neg c20] at H
       have c20b0 := decide_eq_false c20
       clear c20
       obtain rfl := Option.some.inj H
       go_wp2
       go_ret
       exact ⟨_, re, ro HO_7.out, bo HB⟩

end Go.Proofs.Ytnaccgommclhaaa.QFnExactSquareDots
