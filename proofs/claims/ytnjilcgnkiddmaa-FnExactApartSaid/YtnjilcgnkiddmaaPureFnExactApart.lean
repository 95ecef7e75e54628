/- The program's Apart answers what the reference's Apart answers, for all pairs of pictures. No condition beside the row's own. -/
import Derived.Test.YtnjilcgnkiddmaaQFnExactApartx3
namespace Go.Proofs.Ytnjilcgnkiddmaa.Pure
open Go.RowKit Go.Proofs.Ytnjilcgnkiddmaa.QFnExactApart Go.Proofs.YtnjilcgnkiddmaaW.PrintWords Go.Proofs.YtnjilcgnkiddmaaW.PrintLast Go.Proofs.YtnjilcgnkiddmaaW.PrintMore
set_option linter.unusedVariables false
set_option linter.unusedSimpArgs false

theorem wrap_id {x : Int} (h0 : -9223372036854775808 ≤ x) (h1 : x ≤ 9223372036854775807) : wrap64 x = x := by
  unfold wrap64
  omega
theorem wf64 {n : Int} (h : (Lit.int .i64 n).wf = true) : -9223372036854775808 ≤ n ∧ n ≤ 9223372036854775807 := by
  simp [Lit.wf, IntKind.min, IntKind.max, IntKind.signed, IntKind.bits] at h
  omega
theorem wfu8 {n : Int} (h : (Lit.int .u8 n).wf = true) : 0 ≤ n ∧ n ≤ 255 := by
  simp [Lit.wf, IntKind.min, IntKind.max, IntKind.signed, IntKind.bits] at h
  omega
theorem within_eq (a b c : Int) : impl_within.f a b c = some (decide (b ≤ a ∧ a ≤ c)) := by
  unfold impl_within.f
  by_cases h : a ≥ b
  · rw [if_pos h]; congr 1; rw [decide_eq_decide]; omega
  · rw [if_neg h]; congr 1; symm; rw [decide_eq_false_iff_not]; omega
theorem in_eq (a b c : Int) : spec_l01In.f a b c = some (decide (b ≤ a ∧ a ≤ c)) := by
  unfold spec_l01In.f
  by_cases h : a ≥ b
  · rw [if_pos h]; congr 1; rw [decide_eq_decide]; omega
  · rw [if_neg h]; congr 1; symm; rw [decide_eq_false_iff_not]; omega

theorem down {P : Nat → Prop} (n : Nat) (h0 : P n) (hs : ∀ i, i < n → P (i + 1) → P i) : ∀ i, i ≤ n → P i := by
  intro i hi
  obtain ⟨d, hd⟩ : ∃ d, d = n - i := ⟨_, rfl⟩
  induction d generalizing i with
  | zero => have : i = n := by omega
            subst this; exact h0
  | succ d ih => exact hs i (by omega) (ih (i + 1) (by omega) (by omega))
theorem rd_nat (l : List Int) (i : Nat) (h : i < l.length) : rd l (i : Int) = l[i] := by
  unfold rd
  rw [List.getD_eq_getElem?_getD, Int.toNat_natCast, List.getElem?_eq_getElem h]; rfl
theorem cast1 (i : Nat) : ((i : Nat) : Int) + 1 = ((i + 1 : Nat) : Int) := rfl
theorem mix_set {α : Type} (l z : List α) (i : Nat) (hi : i < l.length) (hz : i < z.length) : (l.take i ++ z.drop i).set i l[i] = l.take (i + 1) ++ z.drop (i + 1) := by
  rw [List.set_append_right _ _ (by simp; omega)]
  rw [show i - (l.take i).length = 0 by simp; omega]
  rw [List.drop_eq_getElem_cons hz, List.set_cons_zero, List.take_succ_eq_append_getElem hi, List.append_assoc]; rfl
theorem mix_length {α : Type} (l z : List α) (i : Nat) (h : l.length = z.length) (hi : i ≤ l.length) : (l.take i ++ z.drop i).length = l.length := by
  simp; omega
theorem mix_end {α : Type} (l z : List α) (h : l.length = z.length) : l.take l.length ++ z.drop l.length = l := by
  rw [List.take_length, h, List.drop_length, List.append_nil]
theorem mix_zero {α : Type} (l z : List α) : l.take 0 ++ z.drop 0 = z := by simp
theorem drop_cons {α : Type} {l : List α} {i : Nat} (h : i < l.length) : l.drop i = l[i] :: l.drop (i + 1) := List.drop_eq_getElem_cons h
/-- All numbers of a list are from lo to hi. -/
def allB (lo hi : Int) (l : List Int) : Bool := l.all fun x => decide (lo ≤ x ∧ x ≤ hi)
theorem allB_cons (lo hi x : Int) (l : List Int) : allB lo hi (x :: l) = (decide (lo ≤ x ∧ x ≤ hi) && allB lo hi l) := rfl
theorem allB_iff {lo hi : Int} {l : List Int} : allB lo hi l = true ↔ ∀ x ∈ l, lo ≤ x ∧ x ≤ hi := by
  unfold allB
  rw [List.all_eq_true]
  simp only [decide_eq_true_eq]

theorem sz_pic (w h : Int) (d : ByteArray) (left : Int) (hd : d.size ≤ maxLen) (h0 : 0 ≤ left) (h1 : left ≤ 1048576) : ∃ r, laws_szPic.f w h d left = some r ∧ (r = -1 ∨ (r = left - (d.size : Int) ∧ 0 ≤ r)) := by
  unfold maxLen at hd
  unfold laws_szPic.f
  rw [wrap_id (x := left - (d.size : Int)) (by omega) (by omega)]
  by_cases c : left - (d.size : Int) < 0
  · rw [if_pos c]; exact ⟨_, rfl, .inl rfl⟩
  · rw [if_neg c]; exact ⟨_, rfl, .inr ⟨rfl, by omega⟩⟩
theorem pic_same (w h : Int) (d : ByteArray) : impl_PicOk.f w h d = spec_PicOk.f w h d := by
  unfold impl_PicOk.f spec_PicOk.f
  simp only [within_eq, in_eq]
/-- What a right picture is. -/
def PicR (w h : Int) (d : ByteArray) : Prop := (1 ≤ w ∧ w ≤ 256) ∧ (1 ≤ h ∧ h ≤ 256) ∧ (d.size : Int) = w * h
instance (w h : Int) (d : ByteArray) : Decidable (PicR w h d) := by unfold PicR; infer_instance
theorem small_mul {w h a b : Int} (h0 : 0 ≤ w) (h1 : w ≤ a) (h2 : 0 ≤ h) (h3 : h ≤ b) : 0 ≤ w * h ∧ w * h ≤ a * b := by
  refine ⟨Int.mul_nonneg h0 h2, ?_⟩
  exact Int.mul_le_mul h1 h3 h2 (by omega)
theorem pic_some (w h : Int) (d : ByteArray) : spec_PicOk.f w h d = some (decide (PicR w h d)) := by
  unfold spec_PicOk.f PicR
  simp only [in_eq, Option.bind_some]
  by_cases c : 1 ≤ w ∧ w ≤ 256
  · by_cases c2 : 1 ≤ h ∧ h ≤ 256
    · have hm := small_mul (w := w) (h := h) (a := 256) (b := 256) (by omega) c.2 (by omega) c2.2
      simp only [c, c2, decide_true, if_true, true_and, and_self]
      rw [wrap_id (by omega) (by omega)]
      rfl
    · simp only [c, c2, decide_true, decide_false, if_true, true_and, false_and, and_self]
      rfl
  · simp only [c, decide_false, false_and]
    rfl

theorem mx0 {n hi : Int} (h : 0 ≤ hi) : 0 ≤ mx 0 (mn n hi) ∧ mx 0 (mn n hi) ≤ hi := by unfold mx mn; repeat' split <;> omega
def dotv (w h : Int) (d : ByteArray) (x y : Int) : Int := bt d (mx 0 (mn y (h - 1)) * w + mx 0 (mn x (w - 1)))
theorem spot {w h X Y : Int} (hw : 1 ≤ w) (hX : 0 ≤ X ∧ X ≤ w - 1) (hY : 0 ≤ Y ∧ Y ≤ h - 1) : 0 ≤ Y * w ∧ 0 ≤ Y * w + X ∧ Y * w + X < w * h := by
  have h1 : 0 ≤ Y * w := Int.mul_nonneg hY.1 (by omega)
  have h2 : Y * w ≤ (h - 1) * w := Int.mul_le_mul_of_nonneg_right hY.2 (by omega)
  have h3 : (h - 1) * w = w * h - w := by rw [Int.sub_mul, Int.one_mul, Int.mul_comm]
  omega
theorem dotv_range (w h : Int) (d : ByteArray) (x y : Int) : 0 ≤ dotv w h d x y ∧ dotv w h d x y ≤ 255 := bt_range _ _

def gapd (x y : Int) : Int := mx (wrap64 (wrap64 x - wrap64 y)) (wrap64 (-(wrap64 (wrap64 x - wrap64 y))))
/-- What lies between two texts from place i on, added to s. -/
def apsum (d e : ByteArray) : Nat → Nat → Int → Int
  | 0, _, s => s
  | n + 1, i, s => apsum d e n (i + 1) (wrap64 (s + gapd (bt d i) (bt e i)))
theorem size_eq (x : Int) : impl_size.f x = some (mx x (wrap64 (-x))) := rfl
theorem bt64 (d : ByteArray) (i : Int) : -9223372036854775808 ≤ bt d i ∧ bt d i ≤ 9223372036854775807 := by have := bt_range d i; omega
theorem sized_eq (x : Int) (h0 : -1000000 ≤ x) (h1 : x ≤ 1000000) : spec_l08Sized.f x = some (mx x (wrap64 (-x))) := by
  unfold spec_l08Sized.f mx
  rw [wrap_id (x := -x) (by omega) (by omega)]
  by_cases c : x < 0
  · rw [if_pos c, if_pos (by omega)]
  · rw [if_neg c]
    by_cases c2 : x < -x
    · omega
    · rw [if_neg c2]
theorem apart_loop (w h w' h' : Int) (d e : ByteArray) (n : Nat) (hd : d.size = n) (he : e.size = n) (hn : n ≤ 70000) :
    ∀ i, i ≤ n → ∀ s, Ev (fun k => impl_Apart.l0 k s (n : Int) (i : Int) w h d w' h' e) (apsum d e (n - i) i s) := by
  refine down n ?_ ?_
  · intro s
    rw [Nat.sub_self]
    refine Ev.step (f := fun _ => some s) (fun k => ?_) (Ev.now _)
    simp only [impl_Apart.l0]
    rw [if_neg (by omega)]
  · intro i hi hh s
    have e1 : n - i = (n - (i + 1)) + 1 := by omega
    rw [e1]
    refine Ev.step (fun k => ?_) (hh (wrap64 (s + gapd (bt d i) (bt e i))))
    simp only [impl_Apart.l0]
    rw [if_pos (by omega), if_pos (by omega), if_pos (by omega), if_pos (by omega), size_eq, Option.bind_some, wrap_id (x := (i : Int) + 1) (by omega) (by omega), cast1]
    rfl
theorem sapart_loop (w h w' h' : Int) (d e : ByteArray) (n : Nat) (hd : d.size = n) (he : e.size = n) (hn : n ≤ 70000) :
    ∀ i, i ≤ n → ∀ s, Ev (fun k => spec_Apart.l0 k s (i : Int) w h d w' h' e) (apsum d e (n - i) i s) := by
  refine down n ?_ ?_
  · intro s
    rw [Nat.sub_self]
    refine Ev.step (f := fun _ => some s) (fun k => ?_) (Ev.now _)
    simp only [spec_Apart.l0]
    rw [if_neg (by omega)]
  · intro i hi hh s
    have e1 : n - i = (n - (i + 1)) + 1 := by omega
    rw [e1]
    refine Ev.step (fun k => ?_) (hh (wrap64 (s + gapd (bt d i) (bt e i))))
    have r1 := bt_range d i
    have r2 := bt_range e i
    simp only [spec_Apart.l0]
    rw [if_pos (by omega), if_pos (by omega), if_pos (by omega), sized_eq _ (by rw [wrap_id (x := bt d i) (by omega) (by omega), wrap_id (x := bt e i) (by omega) (by omega), wrap_id (by omega) (by omega)]; omega) (by rw [wrap_id (x := bt d i) (by omega) (by omega), wrap_id (x := bt e i) (by omega) (by omega), wrap_id (by omega) (by omega)]; omega), Option.bind_some, wrap_id (x := (i : Int) + 1) (by omega) (by omega), cast1]
    rfl
def ApR (w h : Int) (d : ByteArray) (w' h' : Int) (e : ByteArray) : Prop := PicR w h d ∧ PicR w' h' e ∧ w = w' ∧ h = h'
instance (w h : Int) (d : ByteArray) (w' h' : Int) (e : ByteArray) : Decidable (ApR w h d w' h' e) := by unfold ApR; infer_instance
def apv (w h : Int) (d : ByteArray) (w' h' : Int) (e : ByteArray) : Int := if ApR w h d w' h' e then apsum d e d.size 0 0 else -1
theorem apr_size {w h : Int} {d : ByteArray} {w' h' : Int} {e : ByteArray} (H : ApR w h d w' h' e) : d.size = e.size ∧ d.size ≤ 65536 := by
  obtain ⟨⟨a, b, c⟩, ⟨a', b', c'⟩, rfl, rfl⟩ := H
  have hm := small_mul (w := w) (h := h) (a := 256) (b := 256) (by omega) a.2 (by omega) b.2
  omega
theorem apart_ev (w h : Int) (d : ByteArray) (w' h' : Int) (e : ByteArray) : Ev (fun k => impl_Apart.f k w h d w' h' e) (apv w h d w' h' e) := by
  unfold impl_Apart.f apv
  simp only [pic_same, pic_some, Option.bind_some]
  by_cases c : ApR w h d w' h' e
  · have hs := apr_size c
    rw [if_pos c]
    obtain ⟨c1, c2, c3, c4⟩ := c
    subst c3 c4
    simp only [c1, c2, decide_true, if_true, bne_self_eq_false]
    refine Ev.step (fun k => by simp only [impl_Apart.j0, Bool.false_eq_true, if_false]; rfl) ?_
    exact apart_loop w h w h d e d.size rfl hs.1.symm (by omega) 0 (by omega) 0
  · rw [if_neg c]
    have hj : Ev (fun k => impl_Apart.j0 k true w h d w' h' e) (-1) := Ev.step (f := fun _ => some (-1)) (fun k => by simp only [impl_Apart.j0]; rfl) (Ev.now _)
    by_cases c1 : PicR w h d
    · by_cases c2 : PicR w' h' e
      · by_cases c3 : w = w'
        · by_cases c4 : h = h'
          · exact absurd ⟨c1, c2, c3, c4⟩ c
          · subst c3
            simp only [c1, c2, decide_true, if_true, show (h != h') = true by simp [c4]]
            exact hj
        · simp only [c1, c2, c3, decide_true, if_true, if_false]; exact hj
      · simp only [c1, c2, decide_true, decide_false, if_true, Bool.false_eq_true, if_false]; exact hj
    · simp only [c1, decide_false, Bool.false_eq_true, if_false]; exact hj
theorem sapart_ev (w h : Int) (d : ByteArray) (w' h' : Int) (e : ByteArray) : Ev (fun k => spec_Apart.f k w h d w' h' e) (apv w h d w' h' e) := by
  unfold spec_Apart.f apv
  simp only [pic_some, Option.bind_some]
  by_cases c : ApR w h d w' h' e
  · have hs := apr_size c
    rw [if_pos c]
    obtain ⟨c1, c2, c3, c4⟩ := c
    subst c3 c4
    simp only [c1, c2, decide_true, if_true, bne_self_eq_false]
    refine Ev.step (fun k => by simp only [spec_Apart.j0, Bool.false_eq_true, if_false]; rfl) ?_
    exact sapart_loop w h w h d e d.size rfl hs.1.symm (by omega) 0 (by omega) 0
  · rw [if_neg c]
    have hj : Ev (fun k => spec_Apart.j0 k true w h d w' h' e) (-1) := Ev.step (f := fun _ => some (-1)) (fun k => by simp only [spec_Apart.j0]; rfl) (Ev.now _)
    by_cases c1 : PicR w h d
    · by_cases c2 : PicR w' h' e
      · by_cases c3 : w = w'
        · by_cases c4 : h = h'
          · exact absurd ⟨c1, c2, c3, c4⟩ c
          · subst c3
            simp only [c1, c2, decide_true, if_true, show (h != h') = true by simp [c4]]
            exact hj
        · simp only [c1, c2, c3, decide_true, if_true, if_false]; exact hj
      · simp only [c1, c2, decide_true, decide_false, if_true, Bool.false_eq_true, if_false]; exact hj
    · simp only [c1, decide_false, Bool.false_eq_true, if_false]; exact hj

theorem FnExactApart : laws_FnExactApart.Pure := by
  intro w h d w' h' e _ _ hd _ _ he
  refine Ev.rounds ?_
  unfold laws_FnExactApart.f laws_toPic.f
  obtain ⟨r, e1, hr⟩ := sz_pic w h d 1048576 hd (by omega) (by omega)
  rw [e1]
  simp only [Option.bind_some]
  by_cases c : r < 0
  · simp only [c, if_true]; exact Ev.now _
  · simp only [c, if_false]
    obtain ⟨r2, e2, hr2⟩ := sz_pic w' h' e r he (by omega) (by omega)
    rw [e2]
    simp only [Option.bind_some]
    by_cases c2 : r2 < 0
    · simp only [c2, if_true]; exact Ev.now _
    · simp only [c2, if_false]
      refine Ev.bind (sapart_ev w h d w' h' e) (Ev.bind (apart_ev w h d w' h' e) ?_)
      simp only [if_true]
      exact Ev.now _

end Go.Proofs.Ytnjilcgnkiddmaa.Pure
