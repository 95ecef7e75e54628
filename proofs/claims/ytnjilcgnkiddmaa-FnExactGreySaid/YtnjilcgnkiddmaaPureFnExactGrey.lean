/- The program's Grey answers what the reference's Grey answers, for all pairs of integers. No condition beside the row's own. -/
import Derived.Test.YtnjilcgnkiddmaaQFnExactGreyx1
namespace Go.Proofs.Ytnjilcgnkiddmaa.Pure
open Go.RowKit Go.Proofs.Ytnjilcgnkiddmaa.QFnExactGrey Go.Proofs.YtnjilcgnkiddmaaW.PrintWords Go.Proofs.YtnjilcgnkiddmaaW.PrintLast Go.Proofs.YtnjilcgnkiddmaaW.PrintMore
set_option linter.unusedVariables false
set_option linter.unusedSimpArgs false

theorem wrap_id {x : Int} (h0 : -9223372036854775808 ≤ x) (h1 : x ≤ 9223372036854775807) : wrap64 x = x := by
  unfold wrap64
  omega
theorem wf64 {n : Int} (h : (Lit.int .i64 n).wf = true) : -9223372036854775808 ≤ n ∧ n ≤ 9223372036854775807 := by
  simp [Lit.wf, IntKind.min, IntKind.max, IntKind.signed, IntKind.bits] at h
  omega
theorem wfu8 {n : Int} (h : (Lit.int .u8 n).wf = true) : 0 ≤ n ∧ n ≤ 255 := by
  simp [Lit.wf, IntKind.min, IntKind.max, IntKind.signed, IntKind.bits] at h
  omega
theorem within_eq (a b c : Int) : impl_within.f a b c = some (decide (b ≤ a ∧ a ≤ c)) := by
  unfold impl_within.f
  by_cases h : a ≥ b
  · rw [if_pos h]; congr 1; rw [decide_eq_decide]; omega
  · rw [if_neg h]; congr 1; symm; rw [decide_eq_false_iff_not]; omega
theorem in_eq (a b c : Int) : spec_l01In.f a b c = some (decide (b ≤ a ∧ a ≤ c)) := by
  unfold spec_l01In.f
  by_cases h : a ≥ b
  · rw [if_pos h]; congr 1; rw [decide_eq_decide]; omega
  · rw [if_neg h]; congr 1; symm; rw [decide_eq_false_iff_not]; omega

theorem down {P : Nat → Prop} (n : Nat) (h0 : P n) (hs : ∀ i, i < n → P (i + 1) → P i) : ∀ i, i ≤ n → P i := by
  intro i hi
  obtain ⟨d, hd⟩ : ∃ d, d = n - i := ⟨_, rfl⟩
  induction d generalizing i with
  | zero => have : i = n := by omega
            subst this; exact h0
  | succ d ih => exact hs i (by omega) (ih (i + 1) (by omega) (by omega))
theorem rd_nat (l : List Int) (i : Nat) (h : i < l.length) : rd l (i : Int) = l[i] := by
  unfold rd
  rw [List.getD_eq_getElem?_getD, Int.toNat_natCast, List.getElem?_eq_getElem h]; rfl
theorem cast1 (i : Nat) : ((i : Nat) : Int) + 1 = ((i + 1 : Nat) : Int) := rfl
theorem mix_set {α : Type} (l z : List α) (i : Nat) (hi : i < l.length) (hz : i < z.length) : (l.take i ++ z.drop i).set i l[i] = l.take (i + 1) ++ z.drop (i + 1) := by
  rw [List.set_append_right _ _ (by simp; omega)]
  rw [show i - (l.take i).length = 0 by simp; omega]
  rw [List.drop_eq_getElem_cons hz, List.set_cons_zero, List.take_succ_eq_append_getElem hi, List.append_assoc]; rfl
theorem mix_length {α : Type} (l z : List α) (i : Nat) (h : l.length = z.length) (hi : i ≤ l.length) : (l.take i ++ z.drop i).length = l.length := by
  simp; omega
theorem mix_end {α : Type} (l z : List α) (h : l.length = z.length) : l.take l.length ++ z.drop l.length = l := by
  rw [List.take_length, h, List.drop_length, List.append_nil]
theorem mix_zero {α : Type} (l z : List α) : l.take 0 ++ z.drop 0 = z := by simp
theorem drop_cons {α : Type} {l : List α} {i : Nat} (h : i < l.length) : l.drop i = l[i] :: l.drop (i + 1) := List.drop_eq_getElem_cons h
/-- All numbers of a list are from lo to hi. -/
def allB (lo hi : Int) (l : List Int) : Bool := l.all fun x => decide (lo ≤ x ∧ x ≤ hi)
theorem allB_cons (lo hi x : Int) (l : List Int) : allB lo hi (x :: l) = (decide (lo ≤ x ∧ x ≤ hi) && allB lo hi l) := rfl
theorem allB_iff {lo hi : Int} {l : List Int} : allB lo hi l = true ↔ ∀ x ∈ l, lo ≤ x ∧ x ≤ hi := by
  unfold allB
  rw [List.all_eq_true]
  simp only [decide_eq_true_eq]

theorem getElem_rep {n i : Nat} {v : Int} (h : i < (List.replicate n v).length) : (List.replicate n v)[i] = v := List.getElem_replicate h
theorem long_ev (n : Nat) (v : Int) (hn : n ≤ 281474976710656) : Ev (fun k => spec_l01Long.f k (n : Int) v) (strOfNums (List.replicate n v)) := by
  have H : ∀ i, i ≤ n → Ev (fun k => spec_l01Long.l0 k (n : Int) v ((List.replicate n v).take i ++ (List.replicate n (0 : Int)).drop i) (i : Int)) (strOfNums (List.replicate n v)) := by
    refine down n ?_ ?_
    · refine Ev.step (f := fun _ => some (strOfNums (List.replicate n v))) (fun k => ?_) (Ev.now _)
      have := mix_end (List.replicate n v) (List.replicate n (0 : Int)) (by simp)
      rw [List.length_replicate] at this
      simp only [spec_l01Long.l0]
      rw [if_neg (by omega), this]
    · intro i hi h
      refine Ev.step (fun k => ?_) h
      have hl : i < (List.replicate n v).length := by simp; exact hi
      have e := mix_set (List.replicate n v) (List.replicate n (0 : Int)) i hl (by simp; exact hi)
      rw [getElem_rep] at e
      simp only [spec_l01Long.l0]
      rw [if_pos (by omega), if_pos (by omega), if_pos (by rw [mix_length _ _ _ (by simp) (by omega)]; omega), Int.toNat_natCast, e, wrap_id (by omega) (by omega), cast1]
  have h0 := H 0 (by omega)
  rw [mix_zero] at h0
  unfold spec_l01Long.f
  refine Ev.congr (fun k => ?_) h0
  rw [if_pos (by omega), if_pos (by rw [Int.toNat_natCast]; exact hn), Int.toNat_natCast]; rfl

/-- What a right picture is. -/
def PicR (w h : Int) (d : ByteArray) : Prop := (1 ≤ w ∧ w ≤ 256) ∧ (1 ≤ h ∧ h ≤ 256) ∧ (d.size : Int) = w * h
instance (w h : Int) (d : ByteArray) : Decidable (PicR w h d) := by unfold PicR; infer_instance
theorem small_mul {w h a b : Int} (h0 : 0 ≤ w) (h1 : w ≤ a) (h2 : 0 ≤ h) (h3 : h ≤ b) : 0 ≤ w * h ∧ w * h ≤ a * b := by
  refine ⟨Int.mul_nonneg h0 h2, ?_⟩
  exact Int.mul_le_mul h1 h3 h2 (by omega)

/-- What a grey picture's dots are. -/
def greyd (w h : Int) : ByteArray := strOfNums (List.replicate (w * h).toNat 128)
def GOk (w h : Int) : Prop := (1 ≤ w ∧ w ≤ 256) ∧ (1 ≤ h ∧ h ≤ 256)
instance (w h : Int) : Decidable (GOk w h) := by unfold GOk; infer_instance
theorem sgrey_ev (w h : Int) : Ev (fun k => spec_Grey.f k w h) (if GOk w h then (w, h, greyd w h) else (0, 0, ⟨#[]⟩)) := by
  unfold spec_Grey.f
  simp only [in_eq, Option.bind_some]
  by_cases c1 : 1 ≤ w ∧ w ≤ 256
  · by_cases c2 : 1 ≤ h ∧ h ≤ 256
    · rw [if_pos ⟨c1, c2⟩]
      simp only [c1, c2, and_self, decide_true, if_true]
      have hm := small_mul (w := w) (h := h) (a := 256) (b := 256) (by omega) c1.2 (by omega) c2.2
      rw [wrap_id (x := w * h) (by omega) (by omega)]
      have e := long_ev (w * h).toNat 128 (by omega)
      rw [Int.toNat_of_nonneg hm.1] at e
      refine Ev.bind e (Ev.now _)
    · rw [if_neg (fun h => c2 h.2)]
      simp only [c1, c2, and_self, decide_true, decide_false, if_true, Bool.false_eq_true, if_false]
      exact Ev.now _
  · rw [if_neg (fun h => c1 h.1)]
    simp only [c1, decide_false, Bool.false_eq_true, if_false]
    exact Ev.now _
theorem grey_loop (w h : Int) (n : Nat) (hn : n ≤ 281474976710656) : Ev (fun k => impl_Grey.l0 k w h (List.replicate n 0) (n : Int) 0) (w, h, strOfNums (List.replicate n 128)) := by
  have H : ∀ i, i ≤ n → Ev (fun k => impl_Grey.l0 k w h ((List.replicate n 128).take i ++ (List.replicate n (0 : Int)).drop i) (n : Int) (i : Int)) (w, h, strOfNums (List.replicate n 128)) := by
    refine down n ?_ ?_
    · refine Ev.step (f := fun _ => some (w, h, strOfNums (List.replicate n 128))) (fun k => ?_) (Ev.now _)
      have := mix_end (List.replicate n (128 : Int)) (List.replicate n (0 : Int)) (by simp)
      rw [List.length_replicate] at this
      simp only [impl_Grey.l0]
      rw [if_neg (by omega), this]
    · intro i hi hh
      refine Ev.step (fun k => ?_) hh
      have hl : i < (List.replicate n (128 : Int)).length := by simp; exact hi
      have e := mix_set (List.replicate n (128 : Int)) (List.replicate n (0 : Int)) i hl (by simp; exact hi)
      rw [getElem_rep] at e
      simp only [impl_Grey.l0]
      rw [if_pos (by omega), if_pos (by omega), if_pos (by rw [mix_length _ _ _ (by simp) (by omega)]; omega), Int.toNat_natCast, e, wrap_id (by omega) (by omega), cast1]
  have h0 := H 0 (by omega)
  rw [mix_zero] at h0
  exact h0
theorem grey_ev (w h : Int) : Ev (fun k => impl_Grey.f k w h) (if GOk w h then (w, h, greyd w h) else (0, 0, ⟨#[]⟩)) := by
  unfold impl_Grey.f
  simp only [within_eq, Option.bind_some]
  by_cases c1 : 1 ≤ w ∧ w ≤ 256
  · by_cases c2 : 1 ≤ h ∧ h ≤ 256
    · rw [if_pos ⟨c1, c2⟩]
      simp only [c1, c2, and_self, decide_true, if_true, Bool.not_true]
      have hm := small_mul (w := w) (h := h) (a := 256) (b := 256) (by omega) c1.2 (by omega) c2.2
      have e := grey_loop w h (w * h).toNat (by omega)
      refine Ev.step (fun k => ?_) e
      simp only [impl_Grey.j0, Bool.false_eq_true, if_false, Option.bind_some]
      rw [wrap_id (x := w * h) (by omega) (by omega), if_pos hm.1, if_pos (by omega), List.length_replicate]
    · rw [if_neg (fun h => c2 h.2)]
      simp only [c1, c2, and_self, decide_true, decide_false, if_true, Bool.not_false]
      exact Ev.step (f := fun _ => some (0, 0, ⟨#[]⟩)) (fun k => by simp only [impl_Grey.j0]; rfl) (Ev.now _)
  · rw [if_neg (fun h => c1 h.1)]
    simp only [c1, decide_false, Bool.false_eq_true, if_false]
    exact Ev.step (f := fun _ => some (0, 0, ⟨#[]⟩)) (fun k => by simp only [impl_Grey.j0]; rfl) (Ev.now _)
theorem eqpic_self (w h : Int) (d : ByteArray) : laws_eqPic.f w h d w h d = some true := by
  unfold laws_eqPic.f
  rw [if_pos rfl, if_pos rfl, if_pos rfl]

theorem FnExactGrey : laws_FnExactGrey.Pure := by
  intro w h _ _
  refine Ev.rounds ?_
  unfold laws_FnExactGrey.f
  refine Ev.bind (sgrey_ev w h) (Ev.bind (grey_ev w h) ?_)
  rw [eqpic_self]
  exact Ev.now _

end Go.Proofs.Ytnjilcgnkiddmaa.Pure
