/- The program's EdgesOf answers what the reference's EdgesOf answers, for all pictures and places, in new memory. No condition beside the row's own. -/
import Derived.Test.YthinpmpjfhjbhaaQFnExactEdgesOfx6
namespace Go.Proofs.Ythinpmpjfhjbhaa.Pure
open Go.RowKit Go.Proofs.Ythinpmpjfhjbhaa.QFnExactEdgesOf Go.Proofs.YthinpmpjfhjbhaaW.PrintWords Go.Proofs.YthinpmpjfhjbhaaW.PrintLast Go.Proofs.YthinpmpjfhjbhaaW.PrintMore
set_option linter.unusedVariables false
set_option linter.unusedSimpArgs false

theorem wrap_id {x : Int} (h0 : -9223372036854775808 ≤ x) (h1 : x ≤ 9223372036854775807) : wrap64 x = x := by
  unfold wrap64
  omega
theorem wf64 {n : Int} (h : (Lit.int .i64 n).wf = true) : -9223372036854775808 ≤ n ∧ n ≤ 9223372036854775807 := by
  simp [Lit.wf, IntKind.min, IntKind.max, IntKind.signed, IntKind.bits] at h
  omega
theorem wfu8 {n : Int} (h : (Lit.int .u8 n).wf = true) : 0 ≤ n ∧ n ≤ 255 := by
  simp [Lit.wf, IntKind.min, IntKind.max, IntKind.signed, IntKind.bits] at h
  omega
theorem within_eq (a b c : Int) : impl_within.f a b c = some (decide (b ≤ a ∧ a ≤ c)) := by
  unfold impl_within.f
  by_cases h : a ≥ b
  · rw [if_pos h]; congr 1; rw [decide_eq_decide]; omega
  · rw [if_neg h]; congr 1; symm; rw [decide_eq_false_iff_not]; omega
theorem in_eq (a b c : Int) : spec_l01In.f a b c = some (decide (b ≤ a ∧ a ≤ c)) := by
  unfold spec_l01In.f
  by_cases h : a ≥ b
  · rw [if_pos h]; congr 1; rw [decide_eq_decide]; omega
  · rw [if_neg h]; congr 1; symm; rw [decide_eq_false_iff_not]; omega

theorem down {P : Nat → Prop} (n : Nat) (h0 : P n) (hs : ∀ i, i < n → P (i + 1) → P i) : ∀ i, i ≤ n → P i := by
  intro i hi
  obtain ⟨d, hd⟩ : ∃ d, d = n - i := ⟨_, rfl⟩
  induction d generalizing i with
  | zero => have : i = n := by omega
            subst this; exact h0
  | succ d ih => exact hs i (by omega) (ih (i + 1) (by omega) (by omega))
theorem rd_nat (l : List Int) (i : Nat) (h : i < l.length) : rd l (i : Int) = l[i] := by
  unfold rd
  rw [List.getD_eq_getElem?_getD, Int.toNat_natCast, List.getElem?_eq_getElem h]; rfl
theorem cast1 (i : Nat) : ((i : Nat) : Int) + 1 = ((i + 1 : Nat) : Int) := rfl
theorem mix_set {α : Type} (l z : List α) (i : Nat) (hi : i < l.length) (hz : i < z.length) : (l.take i ++ z.drop i).set i l[i] = l.take (i + 1) ++ z.drop (i + 1) := by
  rw [List.set_append_right _ _ (by simp; omega)]
  rw [show i - (l.take i).length = 0 by simp; omega]
  rw [List.drop_eq_getElem_cons hz, List.set_cons_zero, List.take_succ_eq_append_getElem hi, List.append_assoc]; rfl
theorem mix_length {α : Type} (l z : List α) (i : Nat) (h : l.length = z.length) (hi : i ≤ l.length) : (l.take i ++ z.drop i).length = l.length := by
  simp; omega
theorem mix_end {α : Type} (l z : List α) (h : l.length = z.length) : l.take l.length ++ z.drop l.length = l := by
  rw [List.take_length, h, List.drop_length, List.append_nil]
theorem mix_zero {α : Type} (l z : List α) : l.take 0 ++ z.drop 0 = z := by simp
theorem drop_cons {α : Type} {l : List α} {i : Nat} (h : i < l.length) : l.drop i = l[i] :: l.drop (i + 1) := List.drop_eq_getElem_cons h
theorem eqInts_ev (a b : List Int) (ha : a.length ≤ 17592186043904) : Ev (fun k => laws_eqIntS.f k a b) (decide (a = b)) := by
  by_cases hl : a.length = b.length
  · have H : ∀ i, i ≤ a.length → Ev (fun k => laws_eqIntS.l0 k a b (i : Int)) (decide (a.drop i = b.drop i)) := by
      refine down a.length ?_ ?_
      · refine Ev.step (f := fun _ => some true) (fun k => ?_) ?_
        · simp only [laws_eqIntS.l0]
          rw [if_neg (by omega)]
        · rw [show decide (a.drop a.length = b.drop a.length) = true by rw [hl]; simp [← hl]]; exact Ev.now _
      · intro i hi h
        have hb : i < b.length := by omega
        by_cases c : a[i] = b[i]
        · have e : decide (a.drop i = b.drop i) = decide (a.drop (i + 1) = b.drop (i + 1)) := by
            rw [decide_eq_decide, drop_cons hi, drop_cons hb, c, List.cons.injEq]; simp only [true_and]
          rw [e]
          refine Ev.step (fun k => ?_) h
          simp only [laws_eqIntS.l0]
          rw [if_pos (by omega), if_pos (by omega), if_pos (by omega), rd_nat a i hi, rd_nat b i hb, if_pos c, wrap_id (by omega) (by omega), cast1]
        · have e : decide (a.drop i = b.drop i) = false := by
            rw [decide_eq_false_iff_not, drop_cons hi, drop_cons hb, List.cons.injEq]; exact fun h => c h.1
          rw [e]
          refine Ev.step (f := fun _ => some false) (fun k => ?_) (Ev.now _)
          simp only [laws_eqIntS.l0]
          rw [if_pos (by omega), if_pos (by omega), if_pos (by omega), rd_nat a i hi, rd_nat b i hb, if_neg c]
    have h0 := H 0 (by omega)
    unfold laws_eqIntS.f
    refine Ev.congr (fun k => ?_) h0
    rw [if_pos (by omega)]; rfl
  · unfold laws_eqIntS.f
    rw [show decide (a = b) = false from decide_eq_false (fun h => hl (by rw [h]))]
    refine Ev.congr (f := fun _ => some false) (fun k => ?_) (Ev.now _)
    rw [if_neg (by omega)]
/-- All numbers of a list are from lo to hi. -/
def allB (lo hi : Int) (l : List Int) : Bool := l.all fun x => decide (lo ≤ x ∧ x ≤ hi)
theorem allB_cons (lo hi x : Int) (l : List Int) : allB lo hi (x :: l) = (decide (lo ≤ x ∧ x ≤ hi) && allB lo hi l) := rfl
theorem allB_iff {lo hi : Int} {l : List Int} : allB lo hi l = true ↔ ∀ x ∈ l, lo ≤ x ∧ x ≤ hi := by
  unfold allB
  rw [List.all_eq_true]
  simp only [decide_eq_true_eq]

theorem sz_pic (w h : Int) (d : ByteArray) (left : Int) (hd : d.size ≤ maxLen) (h0 : 0 ≤ left) (h1 : left ≤ 1048576) : ∃ r, laws_szPic.f w h d left = some r ∧ (r = -1 ∨ (r = left - (d.size : Int) ∧ 0 ≤ r)) := by
  unfold maxLen at hd
  unfold laws_szPic.f
  rw [wrap_id (x := left - (d.size : Int)) (by omega) (by omega)]
  by_cases c : left - (d.size : Int) < 0
  · rw [if_pos c]; exact ⟨_, rfl, .inl rfl⟩
  · rw [if_neg c]; exact ⟨_, rfl, .inr ⟨rfl, by omega⟩⟩
theorem pic_same (w h : Int) (d : ByteArray) : impl_PicOk.f w h d = spec_PicOk.f w h d := by
  unfold impl_PicOk.f spec_PicOk.f
  simp only [within_eq, in_eq]
/-- What a right picture is. -/
def PicR (w h : Int) (d : ByteArray) : Prop := (1 ≤ w ∧ w ≤ 256) ∧ (1 ≤ h ∧ h ≤ 256) ∧ (d.size : Int) = w * h
instance (w h : Int) (d : ByteArray) : Decidable (PicR w h d) := by unfold PicR; infer_instance
theorem small_mul {w h a b : Int} (h0 : 0 ≤ w) (h1 : w ≤ a) (h2 : 0 ≤ h) (h3 : h ≤ b) : 0 ≤ w * h ∧ w * h ≤ a * b := by
  refine ⟨Int.mul_nonneg h0 h2, ?_⟩
  exact Int.mul_le_mul h1 h3 h2 (by omega)
theorem pic_some (w h : Int) (d : ByteArray) : spec_PicOk.f w h d = some (decide (PicR w h d)) := by
  unfold spec_PicOk.f PicR
  simp only [in_eq, Option.bind_some]
  by_cases c : 1 ≤ w ∧ w ≤ 256
  · by_cases c2 : 1 ≤ h ∧ h ≤ 256
    · have hm := small_mul (w := w) (h := h) (a := 256) (b := 256) (by omega) c.2 (by omega) c2.2
      simp only [c, c2, decide_true, if_true, true_and, and_self]
      rw [wrap_id (by omega) (by omega)]
      rfl
    · simp only [c, c2, decide_true, decide_false, if_true, true_and, false_and, and_self]
      rfl
  · simp only [c, decide_false, false_and]
    rfl
theorem ipic_some (w h : Int) (d : ByteArray) : impl_PicOk.f w h d = some (decide (PicR w h d)) := by
  unfold impl_PicOk.f PicR
  simp only [within_eq, Option.bind_some]
  by_cases c : 1 ≤ w ∧ w ≤ 256
  · by_cases c2 : 1 ≤ h ∧ h ≤ 256
    · have hm := small_mul (w := w) (h := h) (a := 256) (b := 256) (by omega) c.2 (by omega) c2.2
      simp only [c, c2, decide_true, if_true, true_and, and_self]
      rw [wrap_id (by omega) (by omega)]
      rfl
    · simp only [c, c2, decide_true, decide_false, if_true, true_and, false_and, and_self]
      rfl
  · simp only [c, decide_false, false_and]
    rfl

theorem brought_ev (n lo hi : Int) : Ev (fun k => spec_Brought.f k n lo hi) (mx lo (mn n hi)) := by
  unfold spec_Brought.f
  unfold mx mn
  by_cases c : hi < lo
  · refine Ev.congr (fun k => by rw [if_pos c]) (Ev.step (f := fun _ => some lo) (fun k => by simp only [spec_Brought.j0]; rfl) ?_)
    have e : (if lo < (if hi < n then hi else n) then (if hi < n then hi else n) else lo) = lo := by repeat' split <;> omega
    rw [e]; exact Ev.now _
  · by_cases c2 : n < lo
    · refine Ev.congr (fun k => by rw [if_neg c, show decide (n < lo) = true from decide_eq_true c2]) (Ev.step (f := fun _ => some lo) (fun k => by simp only [spec_Brought.j0]; rfl) ?_)
      have e : (if lo < (if hi < n then hi else n) then (if hi < n then hi else n) else lo) = lo := by repeat' split <;> omega
      rw [e]; exact Ev.now _
    · refine Ev.congr (fun k => by rw [if_neg c, show decide (n < lo) = false from decide_eq_false c2]) (Ev.step (f := fun _ => if n > hi then some hi else some n) (fun k => by simp only [spec_Brought.j0]; rfl) ?_)
      by_cases c3 : n > hi
      · have e : (if lo < (if hi < n then hi else n) then (if hi < n then hi else n) else lo) = hi := by repeat' split <;> omega
        rw [e]; simp only [c3, if_true]; exact Ev.now _
      · have e : (if lo < (if hi < n then hi else n) then (if hi < n then hi else n) else lo) = n := by repeat' split <;> omega
        rw [e]; simp only [c3, if_false]; exact Ev.now _
theorem mx0 {n hi : Int} (h : 0 ≤ hi) : 0 ≤ mx 0 (mn n hi) ∧ mx 0 (mn n hi) ≤ hi := by unfold mx mn; repeat' split <;> omega
def dotv (w h : Int) (d : ByteArray) (x y : Int) : Int := bt d (mx 0 (mn y (h - 1)) * w + mx 0 (mn x (w - 1)))
theorem spot {w h X Y : Int} (hw : 1 ≤ w) (hX : 0 ≤ X ∧ X ≤ w - 1) (hY : 0 ≤ Y ∧ Y ≤ h - 1) : 0 ≤ Y * w ∧ 0 ≤ Y * w + X ∧ Y * w + X < w * h := by
  have h1 : 0 ≤ Y * w := Int.mul_nonneg hY.1 (by omega)
  have h2 : Y * w ≤ (h - 1) * w := Int.mul_le_mul_of_nonneg_right hY.2 (by omega)
  have h3 : (h - 1) * w = w * h - w := by rw [Int.sub_mul, Int.one_mul, Int.mul_comm]
  omega
theorem dotv_range (w h : Int) (d : ByteArray) (x y : Int) : 0 ≤ dotv w h d x y ∧ dotv w h d x y ≤ 255 := bt_range _ _
theorem dot_eq (w h : Int) (d : ByteArray) (x y : Int) (hp : PicR w h d) : impl_Pic_dot.f w h d x y = some (dotv w h d x y) := by
  obtain ⟨hw, hh, hd⟩ := hp
  unfold impl_Pic_dot.f impl_Brought.f
  simp only [Option.bind_some]
  rw [wrap_id (x := h - 1) (by omega) (by omega), wrap_id (x := w - 1) (by omega) (by omega)]
  have hX := mx0 (n := x) (hi := w - 1) (by omega)
  have hY := mx0 (n := y) (hi := h - 1) (by omega)
  have hs := spot hw.1 hX hY
  have hm := small_mul (w := w) (h := h) (a := 256) (b := 256) (by omega) hw.2 (by omega) hh.2
  rw [wrap_id (x := mx 0 (mn y (h - 1)) * w) (by omega) (by omega), wrap_id (x := mx 0 (mn y (h - 1)) * w + mx 0 (mn x (w - 1))) (by omega) (by omega)]
  have hb := dotv_range w h d x y
  rw [if_pos hs.2.1, if_pos (by omega)]
  unfold dotv at hb ⊢
  rw [wrap_id (by omega) (by omega)]
theorem sdot_ev (w h : Int) (d : ByteArray) (x y : Int) : Ev (fun k => spec_DotAt.f k w h d x y) (if PicR w h d then dotv w h d x y else -1) := by
  unfold spec_DotAt.f
  rw [pic_some]
  simp only [Option.bind_some]
  by_cases c : PicR w h d
  · simp only [c, decide_true, if_true]
    obtain ⟨hw, hh, hd⟩ := c
    rw [wrap_id (x := h - 1) (by omega) (by omega), wrap_id (x := w - 1) (by omega) (by omega)]
    refine Ev.bind (brought_ev y 0 (h - 1)) (Ev.bind (brought_ev x 0 (w - 1)) ?_)
    have hX := mx0 (n := x) (hi := w - 1) (by omega)
    have hY := mx0 (n := y) (hi := h - 1) (by omega)
    have hs := spot hw.1 hX hY
    have hm := small_mul (w := w) (h := h) (a := 256) (b := 256) (by omega) hw.2 (by omega) hh.2
    rw [wrap_id (x := mx 0 (mn y (h - 1)) * w) (by omega) (by omega), wrap_id (x := mx 0 (mn y (h - 1)) * w + mx 0 (mn x (w - 1))) (by omega) (by omega)]
    have hb := dotv_range w h d x y
    rw [if_pos hs.2.1, if_pos (by omega)]
    unfold dotv at hb ⊢
    rw [wrap_id (by omega) (by omega)]
    exact Ev.now _
  · simp only [c, decide_false, Bool.false_eq_true, if_false]
    exact Ev.now _

def aboveV (w h : Int) (d : ByteArray) (x y : Int) : List Int := if y > 0 then (List.range 8).map (fun i : Nat => dotv w h d (x + (i : Int)) (y - 1)) else []
def leftV (w h : Int) (d : ByteArray) (x y : Int) : List Int := if x > 0 then (List.range 8).map (fun i : Nat => dotv w h d (x - 1) (y + (i : Int))) else []
def cornV (w h : Int) (d : ByteArray) (x y : Int) : Int := if x > 0 then (if y > 0 then dotv w h d (x - 1) (y - 1) else -1) else -1
theorem above_yes {w h : Int} {d : ByteArray} {x y : Int} (hy : y > 0) : (aboveV w h d x y).length = 8 ∧ ∀ (i : Nat) (hi : i < (aboveV w h d x y).length), (aboveV w h d x y)[i] = dotv w h d (x + (i : Int)) (y - 1) := by
  have e : aboveV w h d x y = (List.range 8).map (fun i : Nat => dotv w h d (x + (i : Int)) (y - 1)) := if_pos hy
  rw [e]
  exact ⟨by simp, fun i hi => by simp⟩
theorem left_yes {w h : Int} {d : ByteArray} {x y : Int} (hx : x > 0) : (leftV w h d x y).length = 8 ∧ ∀ (i : Nat) (hi : i < (leftV w h d x y).length), (leftV w h d x y)[i] = dotv w h d (x - 1) (y + (i : Int)) := by
  have e : leftV w h d x y = (List.range 8).map (fun i : Nat => dotv w h d (x - 1) (y + (i : Int))) := if_pos hx
  rw [e]
  exact ⟨by simp, fun i hi => by simp⟩
theorem above_no {w h : Int} {d : ByteArray} {x y : Int} (hy : ¬ y > 0) : aboveV w h d x y = [] := if_neg hy
theorem left_no {w h : Int} {d : ByteArray} {x y : Int} (hx : ¬ x > 0) : leftV w h d x y = [] := if_neg hx
theorem above_in (w h : Int) (d : ByteArray) (x y : Int) : ∀ v ∈ aboveV w h d x y, 0 ≤ v ∧ v ≤ 255 := by
  intro v hv
  by_cases hy : y > 0
  · obtain ⟨i, hi, rfl⟩ := List.mem_iff_getElem.1 hv
    rw [(above_yes hy).2]; exact dotv_range ..
  · rw [above_no hy] at hv; simp at hv
theorem left_in (w h : Int) (d : ByteArray) (x y : Int) : ∀ v ∈ leftV w h d x y, 0 ≤ v ∧ v ≤ 255 := by
  intro v hv
  by_cases hx : x > 0
  · obtain ⟨i, hi, rfl⟩ := List.mem_iff_getElem.1 hv
    rw [(left_yes hx).2]; exact dotv_range ..
  · rw [left_no hx] at hv; simp at hv
theorem corn_in (w h : Int) (d : ByteArray) (x y : Int) : -1 ≤ cornV w h d x y ∧ cornV w h d x y ≤ 255 := by
  unfold cornV
  have := dotv_range w h d (x - 1) (y - 1)
  repeat' split <;> omega
theorem above_len (w h : Int) (d : ByteArray) (x y : Int) : (aboveV w h d x y).length = 8 ∨ (aboveV w h d x y).length = 0 := by
  by_cases hy : y > 0
  · exact .inl (above_yes hy).1
  · rw [above_no hy]; exact .inr rfl
theorem left_len (w h : Int) (d : ByteArray) (x y : Int) : (leftV w h d x y).length = 8 ∨ (leftV w h d x y).length = 0 := by
  by_cases hx : x > 0
  · exact .inl (left_yes hx).1
  · rw [left_no hx]; exact .inr rfl
def SqAt (w h x y : Int) : Prop := x % 8 = 0 ∧ y % 8 = 0 ∧ (0 ≤ x ∧ x ≤ w - 8) ∧ (0 ≤ y ∧ y ≤ h - 8)
instance (w h x y : Int) : Decidable (SqAt w h x y) := by unfold SqAt; infer_instance
theorem tmod8 {x : Int} : (Int.tmod x 8 = 0) ↔ x % 8 = 0 := by
  have h1 := Int.dvd_iff_tmod_eq_zero (a := 8) (b := x)
  have h2 := Int.dvd_iff_emod_eq_zero (a := 8) (b := x)
  rw [← h1, ← h2]
def edgesV (w h : Int) (d : ByteArray) (x y : Int) : List Int × List Int × Int × Bool :=
  if PicR w h d ∧ SqAt w h x y then (aboveV w h d x y, leftV w h d x y, cornV w h d x y, true) else ([], [], 0, false)
theorem edgesV_len (w h : Int) (d : ByteArray) (x y : Int) : (edgesV w h d x y).1.length ≤ 8 ∧ (edgesV w h d x y).2.1.length ≤ 8 := by
  unfold edgesV
  have a := above_len w h d x y
  have b := left_len w h d x y
  split
  · exact ⟨by simp only []; omega, by simp only []; omega⟩
  · simp
theorem issq_eq (w h : Int) (d : ByteArray) (x y : Int) (hp : PicR w h d) : impl_Pic_isSquare.f w h d x y = some (decide (SqAt w h x y)) := by
  obtain ⟨hw, hh, _⟩ := hp
  unfold impl_Pic_isSquare.f SqAt
  simp only [tmod8, within_eq, Option.bind_some]
  rw [wrap_id (x := w - 8) (by omega) (by omega), wrap_id (x := h - 8) (by omega) (by omega)]
  by_cases c1 : x % 8 = 0
  · by_cases c2 : y % 8 = 0
    · by_cases c3 : 0 ≤ x ∧ x ≤ w - 8
      · simp only [c1, c2, c3, and_self, if_true, decide_true, true_and]
      · simp only [c1, c2, c3, if_true, decide_false, Bool.false_eq_true, if_false, false_and, and_false]
    · simp only [c1, c2, if_true, if_false, false_and, and_false, decide_false]
  · simp only [c1, if_false, false_and, decide_false]
theorem fits_eq (w h : Int) (d : ByteArray) (x y : Int) : spec_l13Fits.f w h d x y = some (decide (PicR w h d ∧ SqAt w h x y)) := by
  unfold spec_l13Fits.f spec_l12Within.f SqAt
  simp only [tmod8, in_eq, pic_some, Option.bind_some]
  by_cases c1 : x % 8 = 0
  · by_cases c2 : y % 8 = 0
    · by_cases c3 : PicR w h d
      · obtain ⟨hw, hh, _⟩ := id c3
        rw [wrap_id (x := w - 8) (by omega) (by omega), wrap_id (x := h - 8) (by omega) (by omega)]
        by_cases c4 : 0 ≤ x ∧ x ≤ w - 8 <;> by_cases c5 : 0 ≤ y ∧ y ≤ h - 8 <;> by_cases d1 : (1 : Int) ≤ 8 ∧ 8 ≤ w <;> by_cases d2 : (1 : Int) ≤ 8 ∧ 8 ≤ h <;>
          simp only [c1, c2, c3, c4, c5, d1, d2, and_self, if_true, decide_true, decide_false, Bool.false_eq_true, if_false, Option.bind_some, true_and, and_true, and_false, false_and]
        all_goals (first | rfl | (exfalso; omega) | (simp; done))
      · simp only [c1, c2, c3, if_true, false_and, decide_false, Bool.false_eq_true, if_false, Option.bind_some]
    · simp only [c1, c2, if_true, if_false, false_and, and_false, decide_false]
  · simp only [c1, if_false, false_and, and_false, decide_false]
theorem edges_loop (w h : Int) (d : ByteArray) (x y : Int) (hp : PicR w h d) (hs : SqAt w h x y) :
    ∀ i : Nat, i ≤ 8 → Ev (fun k => impl_EdgesOf.l0 k x y (i : Int) w h d ((aboveV w h d x y).take i) ((leftV w h d x y).take i) (-1)) (aboveV w h d x y, leftV w h d x y, cornV w h d x y, true) := by
  have ha := above_len w h d x y
  have hl := left_len w h d x y
  obtain ⟨hw, hh, hd⟩ := id hp
  obtain ⟨_, _, hx, hy⟩ := id hs
  have hD : ∀ u v : Int, Ev (fun k => impl_Pic_dot.f w h d u v) (dotv w h d u v) := fun u v => by rw [dot_eq w h d u v hp]; exact Ev.now _
  have hap : ∀ i : Nat, i < 8 → y > 0 → (aboveV w h d x y).take i ++ [dotv w h d (x + (i : Int)) (y - 1)] = (aboveV w h d x y).take (i + 1) := fun i hi c => by
    rw [← (above_yes (w := w) (h := h) (d := d) (x := x) c).2 i (by rw [(above_yes c).1]; exact hi)]; exact (List.take_succ_eq_append_getElem _).symm
  have hlp : ∀ i : Nat, i < 8 → x > 0 → (leftV w h d x y).take i ++ [dotv w h d (x - 1) (y + (i : Int))] = (leftV w h d x y).take (i + 1) := fun i hi c => by
    rw [← (left_yes (w := w) (h := h) (d := d) (y := y) c).2 i (by rw [(left_yes c).1]; exact hi)]; exact (List.take_succ_eq_append_getElem _).symm
  refine down 8 ?_ ?_
  · rw [List.take_of_length_le (by omega), List.take_of_length_le (by omega)]
    unfold cornV
    by_cases cx : x > 0
    · by_cases cy : y > 0
      · refine Ev.step (f := fun k => (impl_Pic_dot.f w h d (x - 1) (y - 1)).bind fun t => some (aboveV w h d x y, leftV w h d x y, t, true)) (fun k => ?_) (Ev.bind (hD _ _) ?_)
        · simp only [impl_EdgesOf.l0]
          rw [if_neg (by omega), if_pos cx, if_pos cy, wrap_id (x := x - 1) (by omega) (by omega), wrap_id (x := y - 1) (by omega) (by omega)]
        · rw [if_pos cx, if_pos cy]; exact Ev.now _
      · rw [if_pos cx, if_neg cy]
        exact Ev.step (f := fun _ => some _) (fun k => by simp only [impl_EdgesOf.l0]; rw [if_neg (by omega), if_pos cx, if_neg cy]) (Ev.now _)
    · rw [if_neg cx]
      exact Ev.step (f := fun _ => some _) (fun k => by simp only [impl_EdgesOf.l0]; rw [if_neg (by omega), if_neg cx]) (Ev.now _)
  · intro i hi h'
    have w1 : wrap64 ((i : Int) + 1) = ((i + 1 : Nat) : Int) := wrap_id (by omega) (by omega)
    have l1 : ((aboveV w h d x y).take i).length < 17592186044416 := by simp; omega
    have l2 : ((leftV w h d x y).take i).length < 17592186044416 := by simp; omega
    by_cases cy : y > 0
    · have e1 := hap i hi cy
      by_cases cx : x > 0
      · have e2 := hlp i hi cx
        refine Ev.step (f := fun k => (impl_Pic_dot.f w h d (x + (i : Int)) (y - 1)).bind fun t => (if ((aboveV w h d x y).take i).length < 17592186044416 then ((some ((aboveV w h d x y).take i ++ [t] : List Int)).bind fun y123 => ((impl_Pic_dot.f w h d (x - 1) (y + (i : Int))).bind fun t126 => (if ((leftV w h d x y).take i).length < 17592186044416 then (impl_EdgesOf.l0 k x y ((i + 1 : Nat) : Int) w h d y123 ((leftV w h d x y).take i ++ [t126]) (-1)) else (none)))) else (none))) (fun k => ?_) (Ev.bind (hD _ _) ?_)
        · simp only [impl_EdgesOf.l0]
          rw [if_pos (by omega), if_pos cy, wrap_id (x := x + (i : Int)) (by omega) (by omega), wrap_id (x := y - 1) (by omega) (by omega), wrap_id (x := x - 1) (by omega) (by omega), wrap_id (x := y + (i : Int)) (by omega) (by omega), w1]
          simp only [cx, if_true]
        · simp only [l1, l2, if_true, Option.bind_some]
          refine Ev.bind (hD _ _) ?_
          rw [e1, e2]; exact h'
      · rw [left_no cx] at h' l2 ⊢
        refine Ev.step (f := fun k => (impl_Pic_dot.f w h d (x + (i : Int)) (y - 1)).bind fun t => (if ((aboveV w h d x y).take i).length < 17592186044416 then (impl_EdgesOf.l0 k x y ((i + 1 : Nat) : Int) w h d ((aboveV w h d x y).take i ++ [t]) ([].take i) (-1)) else (none))) (fun k => ?_) (Ev.bind (hD _ _) ?_)
        · simp only [impl_EdgesOf.l0]
          rw [if_pos (by omega), if_pos cy, wrap_id (x := x + (i : Int)) (by omega) (by omega), wrap_id (x := y - 1) (by omega) (by omega), w1]
          simp only [cx, if_false, Option.bind_some]
        · simp only [l1, if_true]
          rw [e1]; rw [List.take_nil] at h' ⊢; exact h'
    · rw [above_no cy] at h' l1 ⊢
      by_cases cx : x > 0
      · have e2 := hlp i hi cx
        refine Ev.step (f := fun k => (impl_Pic_dot.f w h d (x - 1) (y + (i : Int))).bind fun t => (if ((leftV w h d x y).take i).length < 17592186044416 then (impl_EdgesOf.l0 k x y ((i + 1 : Nat) : Int) w h d ([].take i) ((leftV w h d x y).take i ++ [t]) (-1)) else (none))) (fun k => ?_) (Ev.bind (hD _ _) ?_)
        · simp only [impl_EdgesOf.l0]
          rw [if_pos (by omega), if_neg cy, wrap_id (x := x - 1) (by omega) (by omega), wrap_id (x := y + (i : Int)) (by omega) (by omega), w1]
          simp only [cx, if_true]
        · simp only [l2, if_true]
          rw [e2]; rw [List.take_nil] at h' ⊢; exact h'
      · rw [left_no cx] at h' ⊢
        rw [List.take_nil] at h' ⊢
        refine Ev.step (fun k => ?_) h'
        simp only [impl_EdgesOf.l0]
        rw [if_pos (by omega), if_neg cy, if_neg cx, w1]
theorem sedges_loop (w h : Int) (d : ByteArray) (x y : Int) (hp : PicR w h d) (hs : SqAt w h x y) :
    ∀ i : Nat, i ≤ 8 → Ev (fun k => spec_EdgesOf.l0 k x y (i : Int) w h d ((aboveV w h d x y).take i) ((leftV w h d x y).take i) (-1)) (aboveV w h d x y, leftV w h d x y, cornV w h d x y, true) := by
  have ha := above_len w h d x y
  have hl := left_len w h d x y
  obtain ⟨hw, hh, hd⟩ := id hp
  obtain ⟨_, _, hx, hy⟩ := id hs
  have hD : ∀ u v : Int, Ev (fun k => spec_DotAt.f k w h d u v) (dotv w h d u v) := fun u v => by have := sdot_ev w h d u v; rwa [if_pos hp] at this
  have hap : ∀ i : Nat, i < 8 → y > 0 → (aboveV w h d x y).take i ++ [dotv w h d (x + (i : Int)) (y - 1)] = (aboveV w h d x y).take (i + 1) := fun i hi c => by
    rw [← (above_yes (w := w) (h := h) (d := d) (x := x) c).2 i (by rw [(above_yes c).1]; exact hi)]; exact (List.take_succ_eq_append_getElem _).symm
  have hlp : ∀ i : Nat, i < 8 → x > 0 → (leftV w h d x y).take i ++ [dotv w h d (x - 1) (y + (i : Int))] = (leftV w h d x y).take (i + 1) := fun i hi c => by
    rw [← (left_yes (w := w) (h := h) (d := d) (y := y) c).2 i (by rw [(left_yes c).1]; exact hi)]; exact (List.take_succ_eq_append_getElem _).symm
  refine down 8 ?_ ?_
  · rw [List.take_of_length_le (by omega), List.take_of_length_le (by omega)]
    unfold cornV
    by_cases cx : x > 0
    · by_cases cy : y > 0
      · refine Ev.step (f := fun k => (spec_DotAt.f k w h d (x - 1) (y - 1)).bind fun t => some (aboveV w h d x y, leftV w h d x y, t, true)) (fun k => ?_) (Ev.bind (hD _ _) ?_)
        · simp only [spec_EdgesOf.l0]
          rw [if_neg (by omega), if_pos cx, if_pos cy, wrap_id (x := x - 1) (by omega) (by omega), wrap_id (x := y - 1) (by omega) (by omega)]
        · rw [if_pos cx, if_pos cy]; exact Ev.now _
      · rw [if_pos cx, if_neg cy]
        exact Ev.step (f := fun _ => some _) (fun k => by simp only [spec_EdgesOf.l0]; rw [if_neg (by omega), if_pos cx, if_neg cy]) (Ev.now _)
    · rw [if_neg cx]
      exact Ev.step (f := fun _ => some _) (fun k => by simp only [spec_EdgesOf.l0]; rw [if_neg (by omega), if_neg cx]) (Ev.now _)
  · intro i hi h'
    have w1 : wrap64 ((i : Int) + 1) = ((i + 1 : Nat) : Int) := wrap_id (by omega) (by omega)
    have l1 : ((aboveV w h d x y).take i).length < 17592186044416 := by simp; omega
    have l2 : ((leftV w h d x y).take i).length < 17592186044416 := by simp; omega
    by_cases cy : y > 0
    · have e1 := hap i hi cy
      by_cases cx : x > 0
      · have e2 := hlp i hi cx
        refine Ev.step (f := fun k => (spec_DotAt.f k w h d (x + (i : Int)) (y - 1)).bind fun t => (if ((aboveV w h d x y).take i).length < 17592186044416 then ((some ((aboveV w h d x y).take i ++ [t] : List Int)).bind fun y123 => ((spec_DotAt.f k w h d (x - 1) (y + (i : Int))).bind fun t126 => (if ((leftV w h d x y).take i).length < 17592186044416 then (spec_EdgesOf.l0 k x y ((i + 1 : Nat) : Int) w h d y123 ((leftV w h d x y).take i ++ [t126]) (-1)) else (none)))) else (none))) (fun k => ?_) (Ev.bind (hD _ _) ?_)
        · simp only [spec_EdgesOf.l0]
          rw [if_pos (by omega), if_pos cy, wrap_id (x := x + (i : Int)) (by omega) (by omega), wrap_id (x := y - 1) (by omega) (by omega), wrap_id (x := x - 1) (by omega) (by omega), wrap_id (x := y + (i : Int)) (by omega) (by omega), w1]
          simp only [cx, if_true]
        · simp only [l1, l2, if_true, Option.bind_some]
          refine Ev.bind (hD _ _) ?_
          rw [e1, e2]; exact h'
      · rw [left_no cx] at h' l2 ⊢
        refine Ev.step (f := fun k => (spec_DotAt.f k w h d (x + (i : Int)) (y - 1)).bind fun t => (if ((aboveV w h d x y).take i).length < 17592186044416 then (spec_EdgesOf.l0 k x y ((i + 1 : Nat) : Int) w h d ((aboveV w h d x y).take i ++ [t]) ([].take i) (-1)) else (none))) (fun k => ?_) (Ev.bind (hD _ _) ?_)
        · simp only [spec_EdgesOf.l0]
          rw [if_pos (by omega), if_pos cy, wrap_id (x := x + (i : Int)) (by omega) (by omega), wrap_id (x := y - 1) (by omega) (by omega), w1]
          simp only [cx, if_false, Option.bind_some]
        · simp only [l1, if_true]
          rw [e1]; rw [List.take_nil] at h' ⊢; exact h'
    · rw [above_no cy] at h' l1 ⊢
      by_cases cx : x > 0
      · have e2 := hlp i hi cx
        refine Ev.step (f := fun k => (spec_DotAt.f k w h d (x - 1) (y + (i : Int))).bind fun t => (if ((leftV w h d x y).take i).length < 17592186044416 then (spec_EdgesOf.l0 k x y ((i + 1 : Nat) : Int) w h d ([].take i) ((leftV w h d x y).take i ++ [t]) (-1)) else (none))) (fun k => ?_) (Ev.bind (hD _ _) ?_)
        · simp only [spec_EdgesOf.l0]
          rw [if_pos (by omega), if_neg cy, wrap_id (x := x - 1) (by omega) (by omega), wrap_id (x := y + (i : Int)) (by omega) (by omega), w1]
          simp only [cx, if_true]
        · simp only [l2, if_true]
          rw [e2]; rw [List.take_nil] at h' ⊢; exact h'
      · rw [left_no cx] at h' ⊢
        rw [List.take_nil] at h' ⊢
        refine Ev.step (fun k => ?_) h'
        simp only [spec_EdgesOf.l0]
        rw [if_pos (by omega), if_neg cy, if_neg cx, w1]
theorem edgesof_ev (w h : Int) (d : ByteArray) (x y : Int) : Ev (fun k => impl_EdgesOf.f k w h d x y) (edgesV w h d x y) := by
  unfold impl_EdgesOf.f edgesV
  simp only [ipic_some, Option.bind_some]
  have hbad : Ev (fun k => impl_EdgesOf.j0 k x y true w h d) ([], [], 0, false) := Ev.step (f := fun _ => some _) (fun k => by simp only [impl_EdgesOf.j0]; rfl) (Ev.now _)
  by_cases c1 : PicR w h d
  · simp only [c1, decide_true, if_true, issq_eq w h d x y c1, Option.bind_some, true_and]
    by_cases c2 : SqAt w h x y
    · rw [if_pos c2]
      simp only [c2, decide_true, Bool.not_true]
      refine Ev.step (fun k => by simp only [impl_EdgesOf.j0, Bool.false_eq_true, if_false] <;> rfl) ?_
      exact edges_loop w h d x y c1 c2 0 (by omega)
    · rw [if_neg c2]
      simp only [c2, decide_false, Bool.not_false]; exact hbad
  · simp only [c1, decide_false, Bool.false_eq_true, if_false, false_and]; exact hbad
theorem sedgesof_ev (w h : Int) (d : ByteArray) (x y : Int) : Ev (fun k => spec_EdgesOf.f k w h d x y) (edgesV w h d x y) := by
  unfold spec_EdgesOf.f edgesV
  simp only [fits_eq, Option.bind_some]
  by_cases c : PicR w h d ∧ SqAt w h x y
  · rw [if_pos c]
    simp only [c, and_self, decide_true, if_true]
    exact sedges_loop w h d x y c.1 c.2 0 (by omega)
  · rw [if_neg c]
    simp only [c, decide_false, Bool.false_eq_true, if_false]; exact Ev.now _

/-- The numbers a, a + 1, .., n of them. -/
def marks : Nat → Int → List Int
  | 0, _ => []
  | n + 1, a => a :: marks n (a + 1)
theorem marks_length (n : Nat) : ∀ a, (marks n a).length = n := by
  induction n with
  | zero => intro a; rfl
  | succ n ih => intro a; simp [marks, ih]
theorem marks_get (n : Nat) : ∀ (a : Int) (i : Nat) (h : i < (marks n a).length), (marks n a)[i] = a + i := by
  induction n with
  | zero => intro a i h; simp [marks] at h
  | succ n ih =>
    intro a i h
    cases i with
    | zero => simp [marks]
    | succ i =>
      have := ih (a + 1) i (by simp [marks] at h; exact h)
      simp only [marks, List.getElem_cons_succ]
      rw [this]
      have e : ((i + 1 : Nat) : Int) = (i : Int) + 1 := rfl
      rw [e]; omega
theorem mark_ev (l : List Int) (a : Int) (hl : l.length ≤ 17592186043904) (h0 : 0 ≤ a) (h1 : a ≤ 1000000000000) : Ev (fun k => laws_markIntS.f k l a) (a + (l.length : Int), marks l.length a) := by
  have hm := marks_length l.length a
  have H : ∀ i, i ≤ l.length → Ev (fun k => laws_markIntS.l0 k ((marks l.length a).take i ++ l.drop i) (a + (i : Int)) (i : Int)) (a + (l.length : Int), marks l.length a) := by
    refine down l.length ?_ ?_
    · refine Ev.step (f := fun _ => some (a + (l.length : Int), marks l.length a)) (fun k => ?_) (Ev.now _)
      have e := mix_end (marks l.length a) l hm
      rw [hm] at e
      simp only [laws_markIntS.l0]
      rw [e, if_neg (by rw [hm]; omega)]
    · intro i hi h
      refine Ev.step (fun k => ?_) h
      have e := mix_set (marks l.length a) l i (by omega) hi
      rw [marks_get] at e
      simp only [laws_markIntS.l0]
      rw [if_pos (by rw [mix_length _ _ _ hm (by omega)]; omega), if_pos (by omega), Int.toNat_natCast, e, wrap_id (x := a + (i : Int) + 1) (by omega) (by omega), wrap_id (x := (i : Int) + 1) (by omega) (by omega), Int.add_assoc, cast1]
  have h := H 0 (by omega)
  rw [mix_zero] at h
  simpa [laws_markIntS.f] using h
theorem held_ev (n : Nat) (a : Int) (hl : n ≤ 17592186043904) (h0 : 0 ≤ a) (h1 : a ≤ 1000000000000) : Ev (fun k => laws_heldIntS.f k (marks n a) a) (a + (n : Int)) := by
  have hm := marks_length n a
  have H : ∀ i, i ≤ n → Ev (fun k => laws_heldIntS.l0 k (marks n a) (a + (i : Int)) (i : Int)) (a + (n : Int)) := by
    refine down n ?_ ?_
    · refine Ev.step (f := fun _ => some (a + (n : Int))) (fun k => ?_) (Ev.now _)
      simp only [laws_heldIntS.l0]
      rw [hm, if_neg (by omega)]
    · intro i hi h
      refine Ev.step (fun k => ?_) h
      simp only [laws_heldIntS.l0]
      rw [if_pos (by omega), if_pos (by omega), rd_nat _ i (by omega), marks_get, if_pos rfl, wrap_id (x := a + (i : Int) + 1) (by omega) (by omega), wrap_id (x := (i : Int) + 1) (by omega) (by omega), Int.add_assoc, cast1]
  have h := H 0 (by omega)
  simpa [laws_heldIntS.f] using h
theorem eqSelf_ev (a : List Int) (ha : a.length ≤ 17592186043904) : Ev (fun k => laws_eqIntS.f k a a) true := by
  have h := eqInts_ev a a ha
  rwa [decide_eq_true rfl] at h

theorem eqEdges_self' (a l : List Int) (c : Int) (ha : a.length ≤ 17592186043904) (hl : l.length ≤ 17592186043904) : Ev (fun k => laws_eqEdges.f k a l c a l c) true := by
  unfold laws_eqEdges.f
  refine Ev.bind (eqInts_ev a a ha) ?_
  simp only [decide_true, if_true]
  refine Ev.bind (eqInts_ev l l hl) ?_
  simp only [decide_true, if_true]
  exact Ev.now _
theorem markEdges_ev (a l : List Int) (c : Int) (ha : a.length ≤ 1048576) (hl : l.length ≤ 1048576) : Ev (fun k => laws_markEdges.f k a l c 1) (1 + (a.length : Int) + (l.length : Int), marks a.length 1, marks l.length (1 + (a.length : Int))) := by
  unfold laws_markEdges.f
  exact Ev.bind (mark_ev a 1 (by omega) (by omega) (by omega)) (Ev.bind (mark_ev l (1 + (a.length : Int)) (by omega) (by omega) (by omega)) (Ev.now _))
theorem heldEdges_ev (n m : Nat) (c : Int) (hn : n ≤ 1048576) (hm : m ≤ 1048576) : Ev (fun k => laws_heldEdges.f k (marks n 1) (marks m (1 + (n : Int))) c 1) (1 + (n : Int) + (m : Int)) := by
  unfold laws_heldEdges.f
  refine Ev.bind (held_ev n 1 (by omega) (by omega) (by omega)) ?_
  have n1 : ¬ (1 + (n : Int) < 0) := by omega
  simp only [n1, if_false]
  refine Ev.bind (held_ev m (1 + (n : Int)) (by omega) (by omega) (by omega)) ?_
  have n2 : ¬ (1 + (n : Int) + (m : Int) < 0) := by omega
  simp only [n2, if_false]
  exact Ev.now _

theorem FnExactEdgesOf : laws_FnExactEdgesOf.Pure := by
  intro w h d x y _ _ hd _ _
  refine Ev.rounds ?_
  unfold laws_FnExactEdgesOf.f laws_toPic.f
  obtain ⟨r, e, hr⟩ := sz_pic w h d 1048576 hd (by omega) (by omega)
  rw [e]
  simp only [Option.bind_some]
  by_cases c : r < 0
  · simp only [c, if_true]; exact Ev.now _
  · simp only [c, if_false]
    have hS := sedgesof_ev w h d x y
    have hI := edgesof_ev w h d x y
    have hlen := edgesV_len w h d x y
    generalize edgesV w h d x y = v at hS hI hlen
    have hE := eqEdges_self' v.1 v.2.1 v.2.2.1 (by omega) (by omega)
    have hM := markEdges_ev v.1 v.2.1 v.2.2.1 (by omega) (by omega)
    have hH := heldEdges_ev v.1.length v.2.1.length v.2.2.1 (by omega) (by omega)
    have n2 : ¬ (1 + (v.1.length : Int) + (v.2.1.length : Int) < 0) := by omega
    refine Ev.bind hS (Ev.bind hI (Ev.bind hE ?_))
    simp only [if_true, bne_self_eq_false]
    refine Ev.step (fun k => by simp only [laws_FnExactEdgesOf.j0, laws_toPic.f, Option.bind_some]; rfl) ?_
    repeat' (first
      | exact Ev.now _
      | (refine Ev.bind (by assumption) ?_)
      | (simp only [if_true, if_false, bne_self_eq_false, Bool.false_eq_true, n2])
      | (refine Ev.step (fun k => by simp only [laws_FnExactEdgesOf.j1]; rfl) ?_))

end Go.Proofs.Ythinpmpjfhjbhaa.Pure
