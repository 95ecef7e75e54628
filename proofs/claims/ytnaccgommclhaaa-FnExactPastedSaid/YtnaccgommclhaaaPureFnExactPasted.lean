/- The program's Pasted answers what the reference's Pasted answers, for all pictures and places. No condition beside the row's own. -/
import Derived.Test.YtnaccgommclhaaaQFnExactPastedx4
namespace Go.Proofs.Ytnaccgommclhaaa.Pure
open Go.RowKit Go.Proofs.Ytnaccgommclhaaa.QFnExactPasted Go.Proofs.YtnaccgommclhaaaW.PrintWords Go.Proofs.YtnaccgommclhaaaW.PrintLast Go.Proofs.YtnaccgommclhaaaW.PrintMore Go.Proofs.YtnaccgommclhaaaV
set_option linter.unusedVariables false
set_option linter.unusedSimpArgs false

theorem wrap_id {x : Int} (h0 : -9223372036854775808 ≤ x) (h1 : x ≤ 9223372036854775807) : wrap64 x = x := by
  unfold wrap64
  omega
theorem wf64 {n : Int} (h : (Lit.int .i64 n).wf = true) : -9223372036854775808 ≤ n ∧ n ≤ 9223372036854775807 := by
  simp [Lit.wf, IntKind.min, IntKind.max, IntKind.signed, IntKind.bits] at h
  omega
theorem wfu8 {n : Int} (h : (Lit.int .u8 n).wf = true) : 0 ≤ n ∧ n ≤ 255 := by
  simp [Lit.wf, IntKind.min, IntKind.max, IntKind.signed, IntKind.bits] at h
  omega
theorem within_eq (a b c : Int) : impl_within.f a b c = some (decide (b ≤ a ∧ a ≤ c)) := by
  unfold impl_within.f
  by_cases h : a ≥ b
  · rw [if_pos h]; congr 1; rw [decide_eq_decide]; omega
  · rw [if_neg h]; congr 1; symm; rw [decide_eq_false_iff_not]; omega
theorem in_eq (a b c : Int) : spec_l01In.f a b c = some (decide (b ≤ a ∧ a ≤ c)) := by
  unfold spec_l01In.f
  by_cases h : a ≥ b
  · rw [if_pos h]; congr 1; rw [decide_eq_decide]; omega
  · rw [if_neg h]; congr 1; symm; rw [decide_eq_false_iff_not]; omega

theorem sz_pic (w h : Int) (d : ByteArray) (left : Int) (hd : d.size ≤ maxLen) (h0 : 0 ≤ left) (h1 : left ≤ 1048576) : ∃ r, laws_szPic.f w h d left = some r ∧ (r = -1 ∨ (r = left - (d.size : Int) ∧ 0 ≤ r)) := by
  unfold maxLen at hd
  unfold laws_szPic.f
  rw [wrap_id (x := left - (d.size : Int)) (by omega) (by omega)]
  by_cases c : left - (d.size : Int) < 0
  · rw [if_pos c]; exact ⟨_, rfl, .inl rfl⟩
  · rw [if_neg c]; exact ⟨_, rfl, .inr ⟨rfl, by omega⟩⟩
theorem pic_same (w h : Int) (d : ByteArray) : impl_PicOk.f w h d = spec_PicOk.f w h d := by
  unfold impl_PicOk.f spec_PicOk.f
  simp only [within_eq, in_eq]
/-- What a right picture is. -/
def PicR (w h : Int) (d : ByteArray) : Prop := (1 ≤ w ∧ w ≤ 256) ∧ (1 ≤ h ∧ h ≤ 256) ∧ (d.size : Int) = w * h
instance (w h : Int) (d : ByteArray) : Decidable (PicR w h d) := by unfold PicR; infer_instance
theorem small_mul {w h a b : Int} (h0 : 0 ≤ w) (h1 : w ≤ a) (h2 : 0 ≤ h) (h3 : h ≤ b) : 0 ≤ w * h ∧ w * h ≤ a * b := by
  refine ⟨Int.mul_nonneg h0 h2, ?_⟩
  exact Int.mul_le_mul h1 h3 h2 (by omega)
theorem pic_some (w h : Int) (d : ByteArray) : spec_PicOk.f w h d = some (decide (PicR w h d)) := by
  unfold spec_PicOk.f PicR
  simp only [in_eq, Option.bind_some]
  by_cases c : 1 ≤ w ∧ w ≤ 256
  · by_cases c2 : 1 ≤ h ∧ h ≤ 256
    · have hm := small_mul (w := w) (h := h) (a := 256) (b := 256) (by omega) c.2 (by omega) c2.2
      simp only [c, c2, decide_true, if_true, true_and, and_self]
      rw [wrap_id (by omega) (by omega)]
      rfl
    · simp only [c, c2, decide_true, decide_false, if_true, true_and, false_and, and_self]
      rfl
  · simp only [c, decide_false, false_and]
    rfl
theorem ipic_some (w h : Int) (d : ByteArray) : impl_PicOk.f w h d = some (decide (PicR w h d)) := by
  unfold impl_PicOk.f PicR
  simp only [within_eq, Option.bind_some]
  by_cases c : 1 ≤ w ∧ w ≤ 256
  · by_cases c2 : 1 ≤ h ∧ h ≤ 256
    · have hm := small_mul (w := w) (h := h) (a := 256) (b := 256) (by omega) c.2 (by omega) c2.2
      simp only [c, c2, decide_true, if_true, true_and, and_self]
      rw [wrap_id (by omega) (by omega)]
      rfl
    · simp only [c, c2, decide_true, decide_false, if_true, true_and, false_and, and_self]
      rfl
  · simp only [c, decide_false, false_and]
    rfl

theorem down {P : Nat → Prop} (n : Nat) (h0 : P n) (hs : ∀ i, i < n → P (i + 1) → P i) : ∀ i, i ≤ n → P i := by
  intro i hi
  obtain ⟨d, hd⟩ : ∃ d, d = n - i := ⟨_, rfl⟩
  induction d generalizing i with
  | zero =>
    have : i = n := by omega
    subst this; exact h0
  | succ d ih => exact hs i (by omega) (ih (i + 1) (by omega) (by omega))
theorem rd_nat (l : List Int) (i : Nat) (h : i < l.length) : rd l (i : Int) = l[i] := by
  unfold rd
  rw [List.getD_eq_getElem?_getD, Int.toNat_natCast, List.getElem?_eq_getElem h]; rfl
theorem cast1 (i : Nat) : ((i : Nat) : Int) + 1 = ((i + 1 : Nat) : Int) := rfl
theorem mix_set {α : Type} (l z : List α) (i : Nat) (hi : i < l.length) (hz : i < z.length) : (l.take i ++ z.drop i).set i l[i] = l.take (i + 1) ++ z.drop (i + 1) := by
  rw [List.set_append_right _ _ (by simp; omega)]
  rw [show i - (l.take i).length = 0 by simp; omega]
  rw [List.drop_eq_getElem_cons hz, List.set_cons_zero, List.take_succ_eq_append_getElem hi, List.append_assoc]; rfl
theorem mix_length {α : Type} (l z : List α) (i : Nat) (h : l.length = z.length) (hi : i ≤ l.length) : (l.take i ++ z.drop i).length = l.length := by
  simp; omega
theorem mix_end {α : Type} (l z : List α) (h : l.length = z.length) : l.take l.length ++ z.drop l.length = l := by
  rw [List.take_length, h, List.drop_length, List.append_nil]
theorem mix_zero {α : Type} (l z : List α) : l.take 0 ++ z.drop 0 = z := by simp
theorem drop_cons {α : Type} {l : List α} {i : Nat} (h : i < l.length) : l.drop i = l[i] :: l.drop (i + 1) := List.drop_eq_getElem_cons h
/-- All numbers of a list are from lo to hi. -/
def allB (lo hi : Int) (l : List Int) : Bool := l.all fun x => decide (lo ≤ x ∧ x ≤ hi)
theorem allB_cons (lo hi x : Int) (l : List Int) : allB lo hi (x :: l) = (decide (lo ≤ x ∧ x ≤ hi) && allB lo hi l) := rfl
theorem allB_iff {lo hi : Int} {l : List Int} : allB lo hi l = true ↔ ∀ x ∈ l, lo ≤ x ∧ x ≤ hi := by
  unfold allB
  rw [List.all_eq_true]
  simp only [decide_eq_true_eq]

def rowV (w : Int) (d : ByteArray) (x cw y : Int) : List Int := bytesOf (d.extract (y * w + x).toNat (y * w + x + cw).toNat)
/-- The dots of n rows of a cut from row y on, behind out. -/
def cutF (w : Int) (d : ByteArray) (x cw : Int) : Nat → Int → List Int → List Int
  | 0, _, out => out
  | n + 1, y, out => cutF w d x cw n (y + 1) (out ++ rowV w d x cw y)
/-- The rectangle lies inside. -/
def HoldR (w h x y cw ch : Int) : Prop := (1 ≤ cw ∧ cw ≤ w) ∧ (1 ≤ ch ∧ ch ≤ h) ∧ (0 ≤ x ∧ x ≤ w - cw) ∧ (0 ≤ y ∧ y ≤ h - ch)
instance (w h x y cw ch : Int) : Decidable (HoldR w h x y cw ch) := by unfold HoldR; infer_instance
theorem cut_facts (w h : Int) (d : ByteArray) (x y0 cw ch : Int) (hp : PicR w h d) (hh : HoldR w h x y0 cw ch) (y : Int) (h0 : y0 ≤ y) (h1 : y + 1 ≤ y0 + ch) :
    0 ≤ y * w + x ∧ y * w + x + cw ≤ (d.size : Int) ∧ 0 ≤ y * w ∧ y * w ≤ 65536 ∧ (d.size : Int) ≤ 65536 := by
  unfold HoldR at hh
  unfold PicR at hp
  have a := small_mul (w := y) (h := w) (a := 256) (b := 256) (by omega) (by omega) (by omega) (by omega)
  have b := small_mul (w := w) (h := h) (a := 256) (b := 256) (by omega) (by omega) (by omega) (by omega)
  have c : (y + 1) * w ≤ h * w := Int.mul_le_mul_of_nonneg_right (by omega) (by omega)
  have e : (y + 1) * w = y * w + w := by rw [Int.add_mul, Int.one_mul]
  have f : h * w = w * h := Int.mul_comm _ _
  rw [e, f] at c
  omega
def cutV (w h : Int) (d : ByteArray) (x y cw ch : Int) : Int × Int × ByteArray × Bool := if PicR w h d ∧ HoldR w h x y cw ch then (cw, ch, strOfNums (cutF w d x cw ch.toNat y []), true) else (0, 0, (⟨#[]⟩ : ByteArray), false)
theorem holds_eq (w h : Int) (d : ByteArray) (x y cw ch : Int) (hp : PicR w h d) : impl_Pic_holds.f w h d x y cw ch = some (decide (HoldR w h x y cw ch)) := by
  unfold impl_Pic_holds.f HoldR
  unfold PicR at hp
  simp only [within_eq, Option.bind_some]
  by_cases c1 : 1 ≤ cw ∧ cw ≤ w
  · by_cases c2 : 1 ≤ ch ∧ ch ≤ h
    · rw [wrap_id (x := w - cw) (by omega) (by omega), wrap_id (x := h - ch) (by omega) (by omega)]
      by_cases c3 : 0 ≤ x ∧ x ≤ w - cw
      · simp only [c1, c2, c3, decide_true, if_true, true_and, and_self]
      · simp only [c1, c2, c3, decide_true, decide_false, if_true, true_and, false_and, and_self, Bool.false_eq_true, if_false]
    · simp only [c1, c2, decide_true, decide_false, if_true, true_and, false_and, and_self, Bool.false_eq_true, if_false]
  · simp only [c1, decide_false, false_and, Bool.false_eq_true, if_false]
theorem sholds_eq (w h : Int) (d : ByteArray) (x y cw ch : Int) : spec_l12Within.f w h d x y cw ch = some (decide (PicR w h d ∧ HoldR w h x y cw ch)) := by
  unfold spec_l12Within.f
  rw [pic_some, Option.bind_some]
  by_cases hp : PicR w h d
  · have hp' := hp
    unfold PicR at hp'
    unfold HoldR
    simp only [in_eq, Option.bind_some, hp, decide_true, if_true, true_and]
    by_cases c1 : 1 ≤ cw ∧ cw ≤ w
    · by_cases c2 : 1 ≤ ch ∧ ch ≤ h
      · rw [wrap_id (x := w - cw) (by omega) (by omega), wrap_id (x := h - ch) (by omega) (by omega)]
        by_cases c3 : 0 ≤ x ∧ x ≤ w - cw
        · simp only [c1, c2, c3, decide_true, if_true, true_and, and_self]
        · simp only [c1, c2, c3, decide_true, decide_false, if_true, true_and, false_and, and_self, Bool.false_eq_true, if_false]
      · simp only [c1, c2, decide_true, decide_false, if_true, true_and, false_and, and_self, Bool.false_eq_true, if_false]
    · simp only [c1, decide_false, false_and, Bool.false_eq_true, if_false]
  · simp only [hp, decide_false, false_and, Bool.false_eq_true, if_false]

theorem copyL_len : ∀ (ys : List Int) (i : Nat) (xs : List Int), (copyL xs i ys).length = xs.length
  | [], _, _ => rfl
  | y :: ys, i, xs => by rw [copyL, copyL_len ys, List.length_set]
theorem copyL_snoc (y : Int) : ∀ (ys : List Int) (i : Nat) (xs : List Int), copyL xs i (ys ++ [y]) = (copyL xs i ys).set (i + ys.length) y
  | [], i, xs => rfl
  | z :: ys, i, xs => by
    rw [List.cons_append, copyL, copyL_snoc y ys, copyL, List.length_cons, show i + 1 + ys.length = i + (ys.length + 1) by omega]
theorem bt_extract (e : ByteArray) (a b j : Nat) (h : a + j < b) (hb : b ≤ e.size) : (bytesOf (e.extract a b))[j]'(by rw [bytesOf_length, ByteArray.size_extract]; omega) = bt e ((a + j : Nat) : Int) := by
  rw [← rd_bytesOf, rd_nat (bytesOf e) (a + j) (by rw [bytesOf_length]; omega)]
  simp [bytesOf]
/-- Row y of a picture. -/
def prow (e : ByteArray) (cw y : Int) : List Int := bytesOf (e.extract (y * cw).toNat ((y + 1) * cw).toNat)
/-- n rows pasted, from row y on. -/
def pstF (w x y0 : Int) (e : ByteArray) (cw : Int) : Nat → Int → List Int → List Int
  | 0, _, out => out
  | n + 1, y, out => pstF w x y0 e cw n (y + 1) (copyL out ((y0 + y) * w + x).toNat (prow e cw y))
def pasteV (w h : Int) (d : ByteArray) (cw ch : Int) (e : ByteArray) (x y : Int) : Int × Int × ByteArray × Bool :=
  if PicR w h d ∧ PicR cw ch e ∧ HoldR w h x y cw ch then (w, h, strOfNums (pstF w x y e cw ch.toNat 0 (bytesOf d)), true) else (w, h, d, false)
theorem prow_facts {cw ch : Int} {e : ByteArray} (hp : PicR cw ch e) (y : Int) (h0 : 0 ≤ y) (h1 : y + 1 ≤ ch) :
    0 ≤ y * cw ∧ (y + 1) * cw = y * cw + cw ∧ y * cw + cw ≤ (e.size : Int) ∧ (e.size : Int) ≤ 65536 ∧ (prow e cw y).length = cw.toNat := by
  unfold PicR at hp
  have a := small_mul (w := y) (h := cw) (a := 256) (b := 256) (by omega) (by omega) (by omega) (by omega)
  have b := small_mul (w := cw) (h := ch) (a := 256) (b := 256) (by omega) (by omega) (by omega) (by omega)
  have c : (y + 1) * cw ≤ ch * cw := Int.mul_le_mul_of_nonneg_right (by omega) (by omega)
  have q : (y + 1) * cw = y * cw + cw := by rw [Int.add_mul, Int.one_mul]
  have f : ch * cw = cw * ch := Int.mul_comm _ _
  refine ⟨a.1, q, by rw [q, f] at c; omega, by omega, ?_⟩
  unfold prow
  rw [bytesOf_length, ByteArray.size_extract]
  rw [q, f] at c
  rw [q]
  omega
theorem paste_loop (w h : Int) (d : ByteArray) (cw ch : Int) (e : ByteArray) (x y0 : Int) (hp : PicR w h d) (hq : PicR cw ch e) (hh : HoldR w h x y0 cw ch) (n : Nat) : ∀ (y : Int) (out : List Int), y + (n : Int) = ch → 0 ≤ y → out.length = d.size →
    Ev (fun k => impl_Pasted.l0 k x y0 out ch y w h d cw ch e) (w, h, strOfNums (pstF w x y0 e cw n y out), true) := by
  have q := hh
  unfold HoldR at q
  have q2 := hp
  unfold PicR at q2
  have q3 := hq
  unfold PicR at q3
  induction n with
  | zero =>
    intro y out ey hy hl
    refine Ev.step (f := fun _ => some (w, h, strOfNums out, true)) (fun k => ?_) (Ev.now _)
    simp only [impl_Pasted.l0]
    rw [if_neg (by omega)]
  | succ n ih =>
    intro y out ey hy hl
    obtain ⟨f0, f1, f2, f3, f4⟩ := cut_facts w h d x y0 cw ch hp hh (y0 + y) (by omega) (by omega)
    obtain ⟨p0, p1, p2, p3, p4⟩ := prow_facts hq y hy (by omega)
    have h' := ih (y + 1) (copyL out ((y0 + y) * w + x).toNat (prow e cw y)) (by omega) (by omega) (by rw [copyL_len, hl])
    have hs : ((e.extract (y * cw).toNat ((y + 1) * cw).toNat).size : Int) = cw := by
      have := p4
      unfold prow at this
      rw [bytesOf_length] at this
      omega
    have w1 : wrap64 (y0 + y) = y0 + y := wrap_id (by omega) (by omega)
    have w2 : wrap64 ((y0 + y) * w) = (y0 + y) * w := by clear w1; exact wrap_id (by omega) (by omega)
    have w3 : wrap64 ((y0 + y) * w + x) = (y0 + y) * w + x := by clear w1 w2; exact wrap_id (by omega) (by omega)
    have w4 : wrap64 (y * cw) = y * cw := by clear w1 w2 w3; exact wrap_id (by omega) (by omega)
    have w5 : wrap64 (y + 1) = y + 1 := by clear w1 w2 w3 w4; exact wrap_id (by omega) (by omega)
    have w6 : wrap64 ((y + 1) * cw) = (y + 1) * cw := by clear w1 w2 w3 w4 w5; exact wrap_id (by omega) (by omega)
    have g1 : y < ch := by omega
    have g2 : (y0 + y) * w + x ≤ (out.length : Int) := by clear w1 w2 w3 w4 w5 w6; omega
    have g3 : y * cw ≤ (y + 1) * cw := by clear w1 w2 w3 w4 w5 w6; omega
    have g4 : (y + 1) * cw ≤ (e.size : Int) := by clear w1 w2 w3 w4 w5 w6; omega
    have g5 : (y0 + y) * w + x + ((e.extract (y * cw).toNat ((y + 1) * cw).toNat).size : Int) ≤ (out.length : Int) := by clear w1 w2 w3 w4 w5 w6; rw [hs]; omega
    refine Ev.step (fun k => ?_) h'
    simp only [impl_Pasted.l0]
    rw [if_pos g1, w1, w2, w3, w4, w5, w6, if_pos f0, if_pos g2, if_pos p0, if_pos g3, if_pos g4, if_pos g5]
    rfl
theorem pasted_ev (w h : Int) (d : ByteArray) (cw ch : Int) (e : ByteArray) (x y : Int) : Ev (fun k => impl_Pasted.f k w h d cw ch e x y) (pasteV w h d cw ch e x y) := by
  unfold impl_Pasted.f pasteV
  have hbad : Ev (fun k => impl_Pasted.j0 k x y true w h d cw ch e) (w, h, d, false) := Ev.step (f := fun _ => some (w, h, d, false)) (fun k => by simp only [impl_Pasted.j0]; rfl) (Ev.now _)
  rw [ipic_some, ipic_some]
  simp only [Option.bind_some]
  by_cases hp : PicR w h d
  · by_cases hq : PicR cw ch e
    · rw [holds_eq w h d x y cw ch hp]
      simp only [hp, hq, decide_true, if_true, true_and, Option.bind_some]
      by_cases hh : HoldR w h x y cw ch
      · rw [if_pos hh]
        simp only [hh, decide_true, Bool.not_true]
        have q3 := hq
        unfold PicR at q3
        have hl := paste_loop w h d cw ch e x y hp hq hh ch.toNat 0 (bytesOf d) (by omega) (by omega) (bytesOf_length d)
        refine Ev.step (fun k => ?_) hl
        simp only [impl_Pasted.j0, impl_dots.f, Option.bind_some, Bool.false_eq_true, if_false]
      · rw [if_neg hh]
        simp only [hh, decide_false, Bool.not_false]
        exact hbad
    · simp only [hp, hq, decide_true, decide_false, if_true, if_false, Bool.false_eq_true, false_and, and_false]
      exact hbad
  · simp only [hp, decide_false, false_and, if_false, Bool.false_eq_true]
    exact hbad
theorem spaste_row (w h : Int) (d : ByteArray) (cw ch : Int) (e : ByteArray) (x y0 : Int) (hp : PicR w h d) (hq : PicR cw ch e) (hh : HoldR w h x y0 cw ch) (y : Int) (hy : 0 ≤ y) (hy1 : y + 1 ≤ ch) (out : List Int) (hl : out.length = d.size) (R : Int × Int × ByteArray × Bool)
    (hR : Ev (fun k => spec_Pasted.l0 k x y0 (copyL out ((y0 + y) * w + x).toNat (prow e cw y)) (y + 1) w h d cw ch e) R) : Ev (fun k => spec_Pasted.l1 k x y0 out y 0 w h d cw ch e) R := by
  have q := hh
  unfold HoldR at q
  have q2 := hp
  unfold PicR at q2
  have q3 := hq
  unfold PicR at q3
  obtain ⟨f0, f1, f2, f3, f4⟩ := cut_facts w h d x y0 cw ch hp hh (y0 + y) (by omega) (by omega)
  obtain ⟨p0, p1, p2, p3, p4⟩ := prow_facts hq y hy hy1
  have w1 : wrap64 (y0 + y) = y0 + y := wrap_id (by omega) (by omega)
  have w2 : wrap64 ((y0 + y) * w) = (y0 + y) * w := by clear w1; exact wrap_id (by omega) (by omega)
  have w3 : wrap64 ((y0 + y) * w + x) = (y0 + y) * w + x := by clear w1 w2; exact wrap_id (by omega) (by omega)
  have w4 : wrap64 (y * cw) = y * cw := by clear w1 w2 w3; exact wrap_id (by omega) (by omega)
  have w5 : wrap64 (y + 1) = y + 1 := by clear w1 w2 w3 w4; exact wrap_id (by omega) (by omega)
  have H : ∀ j, j ≤ cw.toNat → Ev (fun k => spec_Pasted.l1 k x y0 (copyL out ((y0 + y) * w + x).toNat ((prow e cw y).take j)) y (j : Int) w h d cw ch e) R := by
    refine down cw.toNat ?_ ?_
    · rw [List.take_of_length_le (by omega)]
      refine Ev.step (fun k => ?_) hR
      simp only [spec_Pasted.l1]
      rw [if_neg (by clear w1 w2 w3 w4 w5; omega), w5]
    · intro j hj hI
      have hb : (prow e cw y)[j]'(by omega) = bt e (y * cw + (j : Int)) := by
        have := bt_extract e (y * cw).toNat ((y + 1) * cw).toNat j (by clear w1 w2 w3 w4 w5; omega) (by clear w1 w2 w3 w4 w5; omega)
        rw [show (((y * cw).toNat + j : Nat) : Int) = y * cw + (j : Int) by clear w1 w2 w3 w4 w5; omega] at this
        exact this
      have hset : (copyL out ((y0 + y) * w + x).toNat ((prow e cw y).take j)).set ((y0 + y) * w + x + (j : Int)).toNat (bt e (y * cw + (j : Int))) = copyL out ((y0 + y) * w + x).toNat ((prow e cw y).take (j + 1)) := by
        rw [List.take_succ_eq_append_getElem (show j < (prow e cw y).length by omega), copyL_snoc, hb, List.length_take, Nat.min_eq_left (by omega), show ((y0 + y) * w + x + (j : Int)).toNat = ((y0 + y) * w + x).toNat + j by clear w1 w2 w3 w4 w5; omega]
      have w6 : wrap64 (y * cw + (j : Int)) = y * cw + (j : Int) := by clear w1 w2 w3 w4 w5; exact wrap_id (by omega) (by omega)
      have w7 : wrap64 ((y0 + y) * w + x + (j : Int)) = (y0 + y) * w + x + (j : Int) := by clear w1 w2 w3 w4 w5 w6; exact wrap_id (by omega) (by omega)
      have w8 : wrap64 ((j : Int) + 1) = ((j + 1 : Nat) : Int) := by clear w1 w2 w3 w4 w5 w6 w7; rw [wrap_id (by omega) (by omega)]; omega
      have g1 : (j : Int) < cw := by clear w1 w2 w3 w4 w5 w6 w7 w8; omega
      have g2 : 0 ≤ y * cw + (j : Int) := by clear w1 w2 w3 w4 w5 w6 w7 w8; omega
      have g3 : y * cw + (j : Int) < (e.size : Int) := by clear w1 w2 w3 w4 w5 w6 w7 w8; omega
      have g4 : 0 ≤ (y0 + y) * w + x + (j : Int) := by clear w1 w2 w3 w4 w5 w6 w7 w8; omega
      have g5 : (y0 + y) * w + x + (j : Int) < ((copyL out ((y0 + y) * w + x).toNat ((prow e cw y).take j)).length : Int) := by clear w1 w2 w3 w4 w5 w6 w7 w8; rw [copyL_len, hl]; omega
      refine Ev.step (fun k => ?_) hI
      simp only [spec_Pasted.l1]
      rw [if_pos g1, w4, w6, if_pos g2, if_pos g3, w1, w2, w3, w7, if_pos g4, if_pos g5, hset, w8]
  exact H 0 (by omega)
theorem spaste_loop (w h : Int) (d : ByteArray) (cw ch : Int) (e : ByteArray) (x y0 : Int) (hp : PicR w h d) (hq : PicR cw ch e) (hh : HoldR w h x y0 cw ch) (n : Nat) : ∀ (y : Int) (out : List Int), y + (n : Int) = ch → 0 ≤ y → out.length = d.size →
    Ev (fun k => spec_Pasted.l0 k x y0 out y w h d cw ch e) (w, h, strOfNums (pstF w x y0 e cw n y out), true) := by
  induction n with
  | zero =>
    intro y out ey hy hl
    refine Ev.step (f := fun _ => some (w, h, strOfNums out, true)) (fun k => ?_) (Ev.now _)
    simp only [spec_Pasted.l0]
    rw [if_neg (by omega)]
  | succ n ih =>
    intro y out ey hy hl
    have h' := ih (y + 1) (copyL out ((y0 + y) * w + x).toNat (prow e cw y)) (by omega) (by omega) (by rw [copyL_len, hl])
    refine Ev.step (fun k => ?_) (spaste_row w h d cw ch e x y0 hp hq hh y hy (by omega) out hl _ h')
    simp only [spec_Pasted.l0]
    rw [if_pos (by omega)]
theorem spasted_ev (w h : Int) (d : ByteArray) (cw ch : Int) (e : ByteArray) (x y : Int) : Ev (fun k => spec_Pasted.f k w h d cw ch e x y) (pasteV w h d cw ch e x y) := by
  unfold spec_Pasted.f pasteV
  have hbad : Ev (fun k => spec_Pasted.j0 k x y true w h d cw ch e) (w, h, d, false) := Ev.step (f := fun _ => some (w, h, d, false)) (fun k => by simp only [spec_Pasted.j0]; rfl) (Ev.now _)
  rw [pic_some]
  simp only [Option.bind_some]
  by_cases hq : PicR cw ch e
  · rw [sholds_eq]
    simp only [hq, decide_true, if_true, Option.bind_some, true_and]
    by_cases hh : PicR w h d ∧ HoldR w h x y cw ch
    · rw [if_pos hh]
      simp only [hh, and_self, decide_true, Bool.not_true]
      have q3 := hq
      unfold PicR at q3
      have hl := spaste_loop w h d cw ch e x y hh.1 hq hh.2 ch.toNat 0 (bytesOf d) (by omega) (by omega) (bytesOf_length d)
      refine Ev.step (fun k => ?_) hl
      simp only [spec_Pasted.j0, Bool.false_eq_true, if_false]
    · rw [if_neg hh]
      simp only [hh, decide_false, Bool.not_false]
      exact hbad
  · simp only [hq, decide_false, false_and, and_false, if_false, Bool.false_eq_true]
    exact hbad

theorem FnExactPasted : laws_FnExactPasted.Pure := by
  intro w h d cw ch e x y _ _ hd _ _ he _ _
  refine Ev.rounds ?_
  unfold laws_FnExactPasted.f laws_toPic.f
  obtain ⟨r, er, hr⟩ := sz_pic w h d 1048576 hd (by omega) (by omega)
  rw [er]
  simp only [Option.bind_some]
  by_cases c : r < 0
  · simp only [c, if_true]; exact Ev.now _
  · simp only [c, if_false]
    obtain ⟨s, es, hs⟩ := sz_pic cw ch e r he (by omega) (by omega)
    rw [es]
    simp only [Option.bind_some]
    by_cases c2 : s < 0
    · simp only [c2, if_true]; exact Ev.now _
    · simp only [c2, if_false]
      have hS := spasted_ev w h d cw ch e x y
      have hI := pasted_ev w h d cw ch e x y
      generalize pasteV w h d cw ch e x y = v at hS hI
      refine Ev.bind hS (Ev.bind hI ?_)
      unfold laws_eqPic.f
      simp only [if_true, Option.bind_some, bne_self_eq_false, Bool.false_eq_true, if_false]
      exact Ev.now _

end Go.Proofs.Ytnaccgommclhaaa.Pure
