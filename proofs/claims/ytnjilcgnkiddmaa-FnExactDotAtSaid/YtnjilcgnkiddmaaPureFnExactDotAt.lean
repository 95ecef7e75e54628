/- The program's DotAt answers what the reference's DotAt answers, for all pictures and places. No condition beside the row's own. -/
import Derived.Test.YtnjilcgnkiddmaaQFnExactDotAtx2
namespace Go.Proofs.Ytnjilcgnkiddmaa.Pure
open Go.RowKit Go.Proofs.Ytnjilcgnkiddmaa.QFnExactDotAt Go.Proofs.YtnjilcgnkiddmaaW.PrintWords Go.Proofs.YtnjilcgnkiddmaaW.PrintLast Go.Proofs.YtnjilcgnkiddmaaW.PrintMore
set_option linter.unusedVariables false
set_option linter.unusedSimpArgs false

theorem wrap_id {x : Int} (h0 : -9223372036854775808 ≤ x) (h1 : x ≤ 9223372036854775807) : wrap64 x = x := by
  unfold wrap64
  omega
theorem wf64 {n : Int} (h : (Lit.int .i64 n).wf = true) : -9223372036854775808 ≤ n ∧ n ≤ 9223372036854775807 := by
  simp [Lit.wf, IntKind.min, IntKind.max, IntKind.signed, IntKind.bits] at h
  omega
theorem wfu8 {n : Int} (h : (Lit.int .u8 n).wf = true) : 0 ≤ n ∧ n ≤ 255 := by
  simp [Lit.wf, IntKind.min, IntKind.max, IntKind.signed, IntKind.bits] at h
  omega
theorem within_eq (a b c : Int) : impl_within.f a b c = some (decide (b ≤ a ∧ a ≤ c)) := by
  unfold impl_within.f
  by_cases h : a ≥ b
  · rw [if_pos h]; congr 1; rw [decide_eq_decide]; omega
  · rw [if_neg h]; congr 1; symm; rw [decide_eq_false_iff_not]; omega
theorem in_eq (a b c : Int) : spec_l01In.f a b c = some (decide (b ≤ a ∧ a ≤ c)) := by
  unfold spec_l01In.f
  by_cases h : a ≥ b
  · rw [if_pos h]; congr 1; rw [decide_eq_decide]; omega
  · rw [if_neg h]; congr 1; symm; rw [decide_eq_false_iff_not]; omega

theorem sz_pic (w h : Int) (d : ByteArray) (left : Int) (hd : d.size ≤ maxLen) (h0 : 0 ≤ left) (h1 : left ≤ 1048576) : ∃ r, laws_szPic.f w h d left = some r ∧ (r = -1 ∨ (r = left - (d.size : Int) ∧ 0 ≤ r)) := by
  unfold maxLen at hd
  unfold laws_szPic.f
  rw [wrap_id (x := left - (d.size : Int)) (by omega) (by omega)]
  by_cases c : left - (d.size : Int) < 0
  · rw [if_pos c]; exact ⟨_, rfl, .inl rfl⟩
  · rw [if_neg c]; exact ⟨_, rfl, .inr ⟨rfl, by omega⟩⟩
theorem pic_same (w h : Int) (d : ByteArray) : impl_PicOk.f w h d = spec_PicOk.f w h d := by
  unfold impl_PicOk.f spec_PicOk.f
  simp only [within_eq, in_eq]
/-- What a right picture is. -/
def PicR (w h : Int) (d : ByteArray) : Prop := (1 ≤ w ∧ w ≤ 256) ∧ (1 ≤ h ∧ h ≤ 256) ∧ (d.size : Int) = w * h
instance (w h : Int) (d : ByteArray) : Decidable (PicR w h d) := by unfold PicR; infer_instance
theorem small_mul {w h a b : Int} (h0 : 0 ≤ w) (h1 : w ≤ a) (h2 : 0 ≤ h) (h3 : h ≤ b) : 0 ≤ w * h ∧ w * h ≤ a * b := by
  refine ⟨Int.mul_nonneg h0 h2, ?_⟩
  exact Int.mul_le_mul h1 h3 h2 (by omega)
theorem pic_some (w h : Int) (d : ByteArray) : spec_PicOk.f w h d = some (decide (PicR w h d)) := by
  unfold spec_PicOk.f PicR
  simp only [in_eq, Option.bind_some]
  by_cases c : 1 ≤ w ∧ w ≤ 256
  · by_cases c2 : 1 ≤ h ∧ h ≤ 256
    · have hm := small_mul (w := w) (h := h) (a := 256) (b := 256) (by omega) c.2 (by omega) c2.2
      simp only [c, c2, decide_true, if_true, true_and, and_self]
      rw [wrap_id (by omega) (by omega)]
      rfl
    · simp only [c, c2, decide_true, decide_false, if_true, true_and, false_and, and_self]
      rfl
  · simp only [c, decide_false, false_and]
    rfl

theorem brought_ev (n lo hi : Int) : Ev (fun k => spec_Brought.f k n lo hi) (mx lo (mn n hi)) := by
  unfold spec_Brought.f
  unfold mx mn
  by_cases c : hi < lo
  · refine Ev.congr (fun k => by rw [if_pos c]) (Ev.step (f := fun _ => some lo) (fun k => by simp only [spec_Brought.j0]; rfl) ?_)
    have e : (if lo < (if hi < n then hi else n) then (if hi < n then hi else n) else lo) = lo := by repeat' split <;> omega
    rw [e]; exact Ev.now _
  · by_cases c2 : n < lo
    · refine Ev.congr (fun k => by rw [if_neg c, show decide (n < lo) = true from decide_eq_true c2]) (Ev.step (f := fun _ => some lo) (fun k => by simp only [spec_Brought.j0]; rfl) ?_)
      have e : (if lo < (if hi < n then hi else n) then (if hi < n then hi else n) else lo) = lo := by repeat' split <;> omega
      rw [e]; exact Ev.now _
    · refine Ev.congr (fun k => by rw [if_neg c, show decide (n < lo) = false from decide_eq_false c2]) (Ev.step (f := fun _ => if n > hi then some hi else some n) (fun k => by simp only [spec_Brought.j0]; rfl) ?_)
      by_cases c3 : n > hi
      · have e : (if lo < (if hi < n then hi else n) then (if hi < n then hi else n) else lo) = hi := by repeat' split <;> omega
        rw [e]; simp only [c3, if_true]; exact Ev.now _
      · have e : (if lo < (if hi < n then hi else n) then (if hi < n then hi else n) else lo) = n := by repeat' split <;> omega
        rw [e]; simp only [c3, if_false]; exact Ev.now _
theorem mx0 {n hi : Int} (h : 0 ≤ hi) : 0 ≤ mx 0 (mn n hi) ∧ mx 0 (mn n hi) ≤ hi := by unfold mx mn; repeat' split <;> omega
def dotv (w h : Int) (d : ByteArray) (x y : Int) : Int := bt d (mx 0 (mn y (h - 1)) * w + mx 0 (mn x (w - 1)))
theorem spot {w h X Y : Int} (hw : 1 ≤ w) (hX : 0 ≤ X ∧ X ≤ w - 1) (hY : 0 ≤ Y ∧ Y ≤ h - 1) : 0 ≤ Y * w ∧ 0 ≤ Y * w + X ∧ Y * w + X < w * h := by
  have h1 : 0 ≤ Y * w := Int.mul_nonneg hY.1 (by omega)
  have h2 : Y * w ≤ (h - 1) * w := Int.mul_le_mul_of_nonneg_right hY.2 (by omega)
  have h3 : (h - 1) * w = w * h - w := by rw [Int.sub_mul, Int.one_mul, Int.mul_comm]
  omega
theorem dotv_range (w h : Int) (d : ByteArray) (x y : Int) : 0 ≤ dotv w h d x y ∧ dotv w h d x y ≤ 255 := bt_range _ _
theorem dot_eq (w h : Int) (d : ByteArray) (x y : Int) (hp : PicR w h d) : impl_Pic_dot.f w h d x y = some (dotv w h d x y) := by
  obtain ⟨hw, hh, hd⟩ := hp
  unfold impl_Pic_dot.f impl_Brought.f
  simp only [Option.bind_some]
  rw [wrap_id (x := h - 1) (by omega) (by omega), wrap_id (x := w - 1) (by omega) (by omega)]
  have hX := mx0 (n := x) (hi := w - 1) (by omega)
  have hY := mx0 (n := y) (hi := h - 1) (by omega)
  have hs := spot hw.1 hX hY
  have hm := small_mul (w := w) (h := h) (a := 256) (b := 256) (by omega) hw.2 (by omega) hh.2
  rw [wrap_id (x := mx 0 (mn y (h - 1)) * w) (by omega) (by omega), wrap_id (x := mx 0 (mn y (h - 1)) * w + mx 0 (mn x (w - 1))) (by omega) (by omega)]
  have hb := dotv_range w h d x y
  rw [if_pos hs.2.1, if_pos (by omega)]
  unfold dotv at hb ⊢
  rw [wrap_id (by omega) (by omega)]
theorem dotat_eq (w h : Int) (d : ByteArray) (x y : Int) : impl_DotAt.f w h d x y = some (if PicR w h d then dotv w h d x y else -1) := by
  unfold impl_DotAt.f
  rw [pic_same, pic_some, Option.bind_some]
  by_cases c : PicR w h d
  · rw [if_pos (decide_eq_true c), if_pos c, dot_eq w h d x y c]; rfl
  · rw [if_neg (by simp [c]), if_neg c]
theorem sdot_ev (w h : Int) (d : ByteArray) (x y : Int) : Ev (fun k => spec_DotAt.f k w h d x y) (if PicR w h d then dotv w h d x y else -1) := by
  unfold spec_DotAt.f
  rw [pic_some]
  simp only [Option.bind_some]
  by_cases c : PicR w h d
  · simp only [c, decide_true, if_true]
    obtain ⟨hw, hh, hd⟩ := c
    rw [wrap_id (x := h - 1) (by omega) (by omega), wrap_id (x := w - 1) (by omega) (by omega)]
    refine Ev.bind (brought_ev y 0 (h - 1)) (Ev.bind (brought_ev x 0 (w - 1)) ?_)
    have hX := mx0 (n := x) (hi := w - 1) (by omega)
    have hY := mx0 (n := y) (hi := h - 1) (by omega)
    have hs := spot hw.1 hX hY
    have hm := small_mul (w := w) (h := h) (a := 256) (b := 256) (by omega) hw.2 (by omega) hh.2
    rw [wrap_id (x := mx 0 (mn y (h - 1)) * w) (by omega) (by omega), wrap_id (x := mx 0 (mn y (h - 1)) * w + mx 0 (mn x (w - 1))) (by omega) (by omega)]
    have hb := dotv_range w h d x y
    rw [if_pos hs.2.1, if_pos (by omega)]
    unfold dotv at hb ⊢
    rw [wrap_id (by omega) (by omega)]
    exact Ev.now _
  · simp only [c, decide_false, Bool.false_eq_true, if_false]
    exact Ev.now _

theorem FnExactDotAt : laws_FnExactDotAt.Pure := by
  intro w h d x y _ _ hd _ _
  refine Ev.rounds ?_
  unfold laws_FnExactDotAt.f laws_toPic.f
  obtain ⟨r, e, hr⟩ := sz_pic w h d 1048576 hd (by omega) (by omega)
  rw [e]
  simp only [Option.bind_some]
  by_cases c : r < 0
  · simp only [c, if_true]; exact Ev.now _
  · simp only [c, if_false]
    refine Ev.bind (sdot_ev w h d x y) ?_
    rw [dotat_eq]
    simp only [Option.bind_some, if_true]
    exact Ev.now _

end Go.Proofs.Ytnjilcgnkiddmaa.Pure
