/- What is put into a drawn picture is cut out of it again, all else is as it was, and far apart are unlike ones alone: the law FnCuts answers true of every row of bytes. No condition beside the row's own. -/
import Derived.Test.YtnaccgommclhaaaQFnCutsx7
namespace Go.Proofs.Ytnaccgommclhaaa.Pure
open Go.RowKit Go.Proofs.Ytnaccgommclhaaa.QFnCuts Go.Proofs.YtnaccgommclhaaaW.PrintWords Go.Proofs.YtnaccgommclhaaaW.PrintLast Go.Proofs.YtnaccgommclhaaaW.PrintMore Go.Proofs.YtnaccgommclhaaaV
set_option linter.unusedVariables false
set_option linter.unusedSimpArgs false

theorem wrap_id {x : Int} (h0 : -9223372036854775808 ≤ x) (h1 : x ≤ 9223372036854775807) : wrap64 x = x := by
  unfold wrap64
  omega
theorem wf64 {n : Int} (h : (Lit.int .i64 n).wf = true) : -9223372036854775808 ≤ n ∧ n ≤ 9223372036854775807 := by
  simp [Lit.wf, IntKind.min, IntKind.max, IntKind.signed, IntKind.bits] at h
  omega
theorem wfu8 {n : Int} (h : (Lit.int .u8 n).wf = true) : 0 ≤ n ∧ n ≤ 255 := by
  simp [Lit.wf, IntKind.min, IntKind.max, IntKind.signed, IntKind.bits] at h
  omega
theorem within_eq (a b c : Int) : impl_within.f a b c = some (decide (b ≤ a ∧ a ≤ c)) := by
  unfold impl_within.f
  by_cases h : a ≥ b
  · rw [if_pos h]; congr 1; rw [decide_eq_decide]; omega
  · rw [if_neg h]; congr 1; symm; rw [decide_eq_false_iff_not]; omega
theorem in_eq (a b c : Int) : spec_l01In.f a b c = some (decide (b ≤ a ∧ a ≤ c)) := by
  unfold spec_l01In.f
  by_cases h : a ≥ b
  · rw [if_pos h]; congr 1; rw [decide_eq_decide]; omega
  · rw [if_neg h]; congr 1; symm; rw [decide_eq_false_iff_not]; omega

theorem pic_same (w h : Int) (d : ByteArray) : impl_PicOk.f w h d = spec_PicOk.f w h d := by
  unfold impl_PicOk.f spec_PicOk.f
  simp only [within_eq, in_eq]
/-- What a right picture is. -/
def PicR (w h : Int) (d : ByteArray) : Prop := (1 ≤ w ∧ w ≤ 256) ∧ (1 ≤ h ∧ h ≤ 256) ∧ (d.size : Int) = w * h
instance (w h : Int) (d : ByteArray) : Decidable (PicR w h d) := by unfold PicR; infer_instance
theorem small_mul {w h a b : Int} (h0 : 0 ≤ w) (h1 : w ≤ a) (h2 : 0 ≤ h) (h3 : h ≤ b) : 0 ≤ w * h ∧ w * h ≤ a * b := by
  refine ⟨Int.mul_nonneg h0 h2, ?_⟩
  exact Int.mul_le_mul h1 h3 h2 (by omega)
theorem pic_some (w h : Int) (d : ByteArray) : spec_PicOk.f w h d = some (decide (PicR w h d)) := by
  unfold spec_PicOk.f PicR
  simp only [in_eq, Option.bind_some]
  by_cases c : 1 ≤ w ∧ w ≤ 256
  · by_cases c2 : 1 ≤ h ∧ h ≤ 256
    · have hm := small_mul (w := w) (h := h) (a := 256) (b := 256) (by omega) c.2 (by omega) c2.2
      simp only [c, c2, decide_true, if_true, true_and, and_self]
      rw [wrap_id (by omega) (by omega)]
      rfl
    · simp only [c, c2, decide_true, decide_false, if_true, true_and, false_and, and_self]
      rfl
  · simp only [c, decide_false, false_and]
    rfl
theorem ipic_some (w h : Int) (d : ByteArray) : impl_PicOk.f w h d = some (decide (PicR w h d)) := by
  unfold impl_PicOk.f PicR
  simp only [within_eq, Option.bind_some]
  by_cases c : 1 ≤ w ∧ w ≤ 256
  · by_cases c2 : 1 ≤ h ∧ h ≤ 256
    · have hm := small_mul (w := w) (h := h) (a := 256) (b := 256) (by omega) c.2 (by omega) c2.2
      simp only [c, c2, decide_true, if_true, true_and, and_self]
      rw [wrap_id (by omega) (by omega)]
      rfl
    · simp only [c, c2, decide_true, decide_false, if_true, true_and, false_and, and_self]
      rfl
  · simp only [c, decide_false, false_and]
    rfl

theorem down {P : Nat → Prop} (n : Nat) (h0 : P n) (hs : ∀ i, i < n → P (i + 1) → P i) : ∀ i, i ≤ n → P i := by
  intro i hi
  obtain ⟨d, hd⟩ : ∃ d, d = n - i := ⟨_, rfl⟩
  induction d generalizing i with
  | zero =>
    have : i = n := by omega
    subst this; exact h0
  | succ d ih => exact hs i (by omega) (ih (i + 1) (by omega) (by omega))
theorem rd_nat (l : List Int) (i : Nat) (h : i < l.length) : rd l (i : Int) = l[i] := by
  unfold rd
  rw [List.getD_eq_getElem?_getD, Int.toNat_natCast, List.getElem?_eq_getElem h]; rfl
theorem cast1 (i : Nat) : ((i : Nat) : Int) + 1 = ((i + 1 : Nat) : Int) := rfl
theorem mix_set {α : Type} (l z : List α) (i : Nat) (hi : i < l.length) (hz : i < z.length) : (l.take i ++ z.drop i).set i l[i] = l.take (i + 1) ++ z.drop (i + 1) := by
  rw [List.set_append_right _ _ (by simp; omega)]
  rw [show i - (l.take i).length = 0 by simp; omega]
  rw [List.drop_eq_getElem_cons hz, List.set_cons_zero, List.take_succ_eq_append_getElem hi, List.append_assoc]; rfl
theorem mix_length {α : Type} (l z : List α) (i : Nat) (h : l.length = z.length) (hi : i ≤ l.length) : (l.take i ++ z.drop i).length = l.length := by
  simp; omega
theorem mix_end {α : Type} (l z : List α) (h : l.length = z.length) : l.take l.length ++ z.drop l.length = l := by
  rw [List.take_length, h, List.drop_length, List.append_nil]
theorem mix_zero {α : Type} (l z : List α) : l.take 0 ++ z.drop 0 = z := by simp
theorem drop_cons {α : Type} {l : List α} {i : Nat} (h : i < l.length) : l.drop i = l[i] :: l.drop (i + 1) := List.drop_eq_getElem_cons h
/-- All numbers of a list are from lo to hi. -/
def allB (lo hi : Int) (l : List Int) : Bool := l.all fun x => decide (lo ≤ x ∧ x ≤ hi)
theorem allB_cons (lo hi x : Int) (l : List Int) : allB lo hi (x :: l) = (decide (lo ≤ x ∧ x ≤ hi) && allB lo hi l) := rfl
theorem allB_iff {lo hi : Int} {l : List Int} : allB lo hi l = true ↔ ∀ x ∈ l, lo ≤ x ∧ x ≤ hi := by
  unfold allB
  rw [List.all_eq_true]
  simp only [decide_eq_true_eq]

def rowV (w : Int) (d : ByteArray) (x cw y : Int) : List Int := bytesOf (d.extract (y * w + x).toNat (y * w + x + cw).toNat)
/-- The dots of n rows of a cut from row y on, behind out. -/
def cutF (w : Int) (d : ByteArray) (x cw : Int) : Nat → Int → List Int → List Int
  | 0, _, out => out
  | n + 1, y, out => cutF w d x cw n (y + 1) (out ++ rowV w d x cw y)
/-- The rectangle lies inside. -/
def HoldR (w h x y cw ch : Int) : Prop := (1 ≤ cw ∧ cw ≤ w) ∧ (1 ≤ ch ∧ ch ≤ h) ∧ (0 ≤ x ∧ x ≤ w - cw) ∧ (0 ≤ y ∧ y ≤ h - ch)
instance (w h x y cw ch : Int) : Decidable (HoldR w h x y cw ch) := by unfold HoldR; infer_instance
theorem cut_facts (w h : Int) (d : ByteArray) (x y0 cw ch : Int) (hp : PicR w h d) (hh : HoldR w h x y0 cw ch) (y : Int) (h0 : y0 ≤ y) (h1 : y + 1 ≤ y0 + ch) :
    0 ≤ y * w + x ∧ y * w + x + cw ≤ (d.size : Int) ∧ 0 ≤ y * w ∧ y * w ≤ 65536 ∧ (d.size : Int) ≤ 65536 := by
  unfold HoldR at hh
  unfold PicR at hp
  have a := small_mul (w := y) (h := w) (a := 256) (b := 256) (by omega) (by omega) (by omega) (by omega)
  have b := small_mul (w := w) (h := h) (a := 256) (b := 256) (by omega) (by omega) (by omega) (by omega)
  have c : (y + 1) * w ≤ h * w := Int.mul_le_mul_of_nonneg_right (by omega) (by omega)
  have e : (y + 1) * w = y * w + w := by rw [Int.add_mul, Int.one_mul]
  have f : h * w = w * h := Int.mul_comm _ _
  rw [e, f] at c
  omega
def cutV (w h : Int) (d : ByteArray) (x y cw ch : Int) : Int × Int × ByteArray × Bool := if PicR w h d ∧ HoldR w h x y cw ch then (cw, ch, strOfNums (cutF w d x cw ch.toNat y []), true) else (0, 0, (⟨#[]⟩ : ByteArray), false)
theorem holds_eq (w h : Int) (d : ByteArray) (x y cw ch : Int) (hp : PicR w h d) : impl_Pic_holds.f w h d x y cw ch = some (decide (HoldR w h x y cw ch)) := by
  unfold impl_Pic_holds.f HoldR
  unfold PicR at hp
  simp only [within_eq, Option.bind_some]
  by_cases c1 : 1 ≤ cw ∧ cw ≤ w
  · by_cases c2 : 1 ≤ ch ∧ ch ≤ h
    · rw [wrap_id (x := w - cw) (by omega) (by omega), wrap_id (x := h - ch) (by omega) (by omega)]
      by_cases c3 : 0 ≤ x ∧ x ≤ w - cw
      · simp only [c1, c2, c3, decide_true, if_true, true_and, and_self]
      · simp only [c1, c2, c3, decide_true, decide_false, if_true, true_and, false_and, and_self, Bool.false_eq_true, if_false]
    · simp only [c1, c2, decide_true, decide_false, if_true, true_and, false_and, and_self, Bool.false_eq_true, if_false]
  · simp only [c1, decide_false, false_and, Bool.false_eq_true, if_false]
theorem cut_loop (w h : Int) (d : ByteArray) (x y0 cw ch : Int) (hp : PicR w h d) (hh : HoldR w h x y0 cw ch) (n : Nat) : ∀ (y : Int) (out : List Int), y + (n : Int) = y0 + ch → y0 ≤ y → out.length + 70000 * n ≤ 30000000 →
    Ev (fun k => impl_CutOf.l0 k out y w h d x y0 cw ch) (cw, ch, strOfNums (cutF w d x cw n y out), true) := by
  have q := hh
  unfold HoldR at q
  have q2 := hp
  unfold PicR at q2
  induction n with
  | zero =>
    intro y out e hy hl
    refine Ev.step (f := fun _ => some (cw, ch, strOfNums out, true)) (fun k => ?_) (Ev.now _)
    simp only [impl_CutOf.l0]
    rw [wrap_id (x := y0 + ch) (by omega) (by omega), if_neg (by omega)]
  | succ n ih =>
    intro y out e hy hl
    obtain ⟨f0, f1, f2, f3, f4⟩ := cut_facts w h d x y0 cw ch hp hh y hy (by omega)
    have hr : (rowV w d x cw y).length ≤ 70000 := by
      unfold rowV
      rw [bytesOf_length, ByteArray.size_extract]
      omega
    have h' := ih (y + 1) (out ++ rowV w d x cw y) (by omega) (by omega) (by rw [List.length_append]; omega)
    have g1 : y < y0 + ch := by omega
    have g2 : y * w + x ≤ y * w + x + cw := by omega
    have g3 : out.length + (d.extract (y * w + x).toNat (y * w + x + cw).toNat).size < 140737488355328 := by
      rw [ByteArray.size_extract]; omega
    have w1 : wrap64 (y0 + ch) = y0 + ch := wrap_id (by omega) (by omega)
    have w2 : wrap64 (y * w) = y * w := by clear w1; exact wrap_id (by omega) (by omega)
    have w3 : wrap64 (y * w + x) = y * w + x := by clear w1 w2; exact wrap_id (by omega) (by omega)
    have w4 : wrap64 (y * w + x + cw) = y * w + x + cw := by clear w1 w2 w3; exact wrap_id (by omega) (by omega)
    have w5 : wrap64 (y + 1) = y + 1 := by clear w1 w2 w3 w4; exact wrap_id (by omega) (by omega)
    refine Ev.step (fun k => ?_) h'
    simp only [impl_CutOf.l0]
    rw [w1, if_pos g1, w2, w3, w4, if_pos f0, if_pos g2, if_pos f1, if_pos g3, w5]
    rfl
theorem cutof_ev (w h : Int) (d : ByteArray) (x y cw ch : Int) : Ev (fun k => impl_CutOf.f k w h d x y cw ch) (cutV w h d x y cw ch) := by
  unfold impl_CutOf.f cutV
  have hbad : Ev (fun k => impl_CutOf.j0 k true w h d x y cw ch) (0, 0, (⟨#[]⟩ : ByteArray), false) := Ev.step (f := fun _ => some (0, 0, (⟨#[]⟩ : ByteArray), false)) (fun k => by simp only [impl_CutOf.j0]; rfl) (Ev.now _)
  rw [ipic_some]
  simp only [Option.bind_some]
  by_cases hp : PicR w h d
  · rw [holds_eq w h d x y cw ch hp]
    simp only [hp, decide_true, if_true, true_and, Option.bind_some]
    by_cases hh : HoldR w h x y cw ch
    · rw [if_pos hh]
      simp only [hh, decide_true, Bool.not_true]
      have q := hh
      unfold HoldR at q
      have q2 := hp
      unfold PicR at q2
      have b := small_mul (w := cw) (h := ch) (a := 256) (b := 256) (by omega) (by omega) (by omega) (by omega)
      have hl := cut_loop w h d x y cw ch hp hh ch.toNat y [] (by omega) (by omega) (by simp; omega)
      have w1 : wrap64 (cw * ch) = cw * ch := wrap_id (by omega) (by omega)
      have g1 : (cw * ch).toNat ≤ 281474976710656 := by clear w1 hl; omega
      refine Ev.step (fun k => ?_) hl
      simp only [impl_CutOf.j0, Bool.false_eq_true, if_false]
      rw [w1, if_pos b.1, if_pos g1]
    · rw [if_neg hh]
      simp only [hh, decide_false, Bool.not_false]
      exact hbad
  · simp only [hp, decide_false, false_and, if_false, Bool.false_eq_true]
    exact hbad

theorem copyL_len : ∀ (ys : List Int) (i : Nat) (xs : List Int), (copyL xs i ys).length = xs.length
  | [], _, _ => rfl
  | y :: ys, i, xs => by rw [copyL, copyL_len ys, List.length_set]
theorem copyL_snoc (y : Int) : ∀ (ys : List Int) (i : Nat) (xs : List Int), copyL xs i (ys ++ [y]) = (copyL xs i ys).set (i + ys.length) y
  | [], i, xs => rfl
  | z :: ys, i, xs => by
    rw [List.cons_append, copyL, copyL_snoc y ys, copyL, List.length_cons, show i + 1 + ys.length = i + (ys.length + 1) by omega]
theorem bt_extract (e : ByteArray) (a b j : Nat) (h : a + j < b) (hb : b ≤ e.size) : (bytesOf (e.extract a b))[j]'(by rw [bytesOf_length, ByteArray.size_extract]; omega) = bt e ((a + j : Nat) : Int) := by
  rw [← rd_bytesOf, rd_nat (bytesOf e) (a + j) (by rw [bytesOf_length]; omega)]
  simp [bytesOf]
/-- Row y of a picture. -/
def prow (e : ByteArray) (cw y : Int) : List Int := bytesOf (e.extract (y * cw).toNat ((y + 1) * cw).toNat)
/-- n rows pasted, from row y on. -/
def pstF (w x y0 : Int) (e : ByteArray) (cw : Int) : Nat → Int → List Int → List Int
  | 0, _, out => out
  | n + 1, y, out => pstF w x y0 e cw n (y + 1) (copyL out ((y0 + y) * w + x).toNat (prow e cw y))
def pasteV (w h : Int) (d : ByteArray) (cw ch : Int) (e : ByteArray) (x y : Int) : Int × Int × ByteArray × Bool :=
  if PicR w h d ∧ PicR cw ch e ∧ HoldR w h x y cw ch then (w, h, strOfNums (pstF w x y e cw ch.toNat 0 (bytesOf d)), true) else (w, h, d, false)
theorem prow_facts {cw ch : Int} {e : ByteArray} (hp : PicR cw ch e) (y : Int) (h0 : 0 ≤ y) (h1 : y + 1 ≤ ch) :
    0 ≤ y * cw ∧ (y + 1) * cw = y * cw + cw ∧ y * cw + cw ≤ (e.size : Int) ∧ (e.size : Int) ≤ 65536 ∧ (prow e cw y).length = cw.toNat := by
  unfold PicR at hp
  have a := small_mul (w := y) (h := cw) (a := 256) (b := 256) (by omega) (by omega) (by omega) (by omega)
  have b := small_mul (w := cw) (h := ch) (a := 256) (b := 256) (by omega) (by omega) (by omega) (by omega)
  have c : (y + 1) * cw ≤ ch * cw := Int.mul_le_mul_of_nonneg_right (by omega) (by omega)
  have q : (y + 1) * cw = y * cw + cw := by rw [Int.add_mul, Int.one_mul]
  have f : ch * cw = cw * ch := Int.mul_comm _ _
  refine ⟨a.1, q, by rw [q, f] at c; omega, by omega, ?_⟩
  unfold prow
  rw [bytesOf_length, ByteArray.size_extract]
  rw [q, f] at c
  rw [q]
  omega
theorem paste_loop (w h : Int) (d : ByteArray) (cw ch : Int) (e : ByteArray) (x y0 : Int) (hp : PicR w h d) (hq : PicR cw ch e) (hh : HoldR w h x y0 cw ch) (n : Nat) : ∀ (y : Int) (out : List Int), y + (n : Int) = ch → 0 ≤ y → out.length = d.size →
    Ev (fun k => impl_Pasted.l0 k x y0 out ch y w h d cw ch e) (w, h, strOfNums (pstF w x y0 e cw n y out), true) := by
  have q := hh
  unfold HoldR at q
  have q2 := hp
  unfold PicR at q2
  have q3 := hq
  unfold PicR at q3
  induction n with
  | zero =>
    intro y out ey hy hl
    refine Ev.step (f := fun _ => some (w, h, strOfNums out, true)) (fun k => ?_) (Ev.now _)
    simp only [impl_Pasted.l0]
    rw [if_neg (by omega)]
  | succ n ih =>
    intro y out ey hy hl
    obtain ⟨f0, f1, f2, f3, f4⟩ := cut_facts w h d x y0 cw ch hp hh (y0 + y) (by omega) (by omega)
    obtain ⟨p0, p1, p2, p3, p4⟩ := prow_facts hq y hy (by omega)
    have h' := ih (y + 1) (copyL out ((y0 + y) * w + x).toNat (prow e cw y)) (by omega) (by omega) (by rw [copyL_len, hl])
    have hs : ((e.extract (y * cw).toNat ((y + 1) * cw).toNat).size : Int) = cw := by
      have := p4
      unfold prow at this
      rw [bytesOf_length] at this
      omega
    have w1 : wrap64 (y0 + y) = y0 + y := wrap_id (by omega) (by omega)
    have w2 : wrap64 ((y0 + y) * w) = (y0 + y) * w := by clear w1; exact wrap_id (by omega) (by omega)
    have w3 : wrap64 ((y0 + y) * w + x) = (y0 + y) * w + x := by clear w1 w2; exact wrap_id (by omega) (by omega)
    have w4 : wrap64 (y * cw) = y * cw := by clear w1 w2 w3; exact wrap_id (by omega) (by omega)
    have w5 : wrap64 (y + 1) = y + 1 := by clear w1 w2 w3 w4; exact wrap_id (by omega) (by omega)
    have w6 : wrap64 ((y + 1) * cw) = (y + 1) * cw := by clear w1 w2 w3 w4 w5; exact wrap_id (by omega) (by omega)
    have g1 : y < ch := by omega
    have g2 : (y0 + y) * w + x ≤ (out.length : Int) := by clear w1 w2 w3 w4 w5 w6; omega
    have g3 : y * cw ≤ (y + 1) * cw := by clear w1 w2 w3 w4 w5 w6; omega
    have g4 : (y + 1) * cw ≤ (e.size : Int) := by clear w1 w2 w3 w4 w5 w6; omega
    have g5 : (y0 + y) * w + x + ((e.extract (y * cw).toNat ((y + 1) * cw).toNat).size : Int) ≤ (out.length : Int) := by clear w1 w2 w3 w4 w5 w6; rw [hs]; omega
    refine Ev.step (fun k => ?_) h'
    simp only [impl_Pasted.l0]
    rw [if_pos g1, w1, w2, w3, w4, w5, w6, if_pos f0, if_pos g2, if_pos p0, if_pos g3, if_pos g4, if_pos g5]
    rfl
theorem pasted_ev (w h : Int) (d : ByteArray) (cw ch : Int) (e : ByteArray) (x y : Int) : Ev (fun k => impl_Pasted.f k w h d cw ch e x y) (pasteV w h d cw ch e x y) := by
  unfold impl_Pasted.f pasteV
  have hbad : Ev (fun k => impl_Pasted.j0 k x y true w h d cw ch e) (w, h, d, false) := Ev.step (f := fun _ => some (w, h, d, false)) (fun k => by simp only [impl_Pasted.j0]; rfl) (Ev.now _)
  rw [ipic_some, ipic_some]
  simp only [Option.bind_some]
  by_cases hp : PicR w h d
  · by_cases hq : PicR cw ch e
    · rw [holds_eq w h d x y cw ch hp]
      simp only [hp, hq, decide_true, if_true, true_and, Option.bind_some]
      by_cases hh : HoldR w h x y cw ch
      · rw [if_pos hh]
        simp only [hh, decide_true, Bool.not_true]
        have q3 := hq
        unfold PicR at q3
        have hl := paste_loop w h d cw ch e x y hp hq hh ch.toNat 0 (bytesOf d) (by omega) (by omega) (bytesOf_length d)
        refine Ev.step (fun k => ?_) hl
        simp only [impl_Pasted.j0, impl_dots.f, Option.bind_some, Bool.false_eq_true, if_false]
      · rw [if_neg hh]
        simp only [hh, decide_false, Bool.not_false]
        exact hbad
    · simp only [hp, hq, decide_true, decide_false, if_true, if_false, Bool.false_eq_true, false_and, and_false]
      exact hbad
  · simp only [hp, decide_false, false_and, if_false, Bool.false_eq_true]
    exact hbad

theorem getElem_rep {n i : Nat} {v : Int} (h : i < (List.replicate n v).length) : (List.replicate n v)[i] = v := List.getElem_replicate h

/-- How many binary figures a number has (at most w are looked at). -/
def figsF : Nat → Nat → Nat
  | 0, _ => 0
  | w + 1, x => if x = 0 then 0 else figsF w (x / 2) + 1
def figs (x : Nat) : Nat := figsF 64 x
/-- The last w binary figures of x, as the signs 48 and 49. -/
def fixL (x : Nat) : Nat → List Int
  | 0 => []
  | w + 1 => fixL (x / 2) w ++ [48 + ((x % 2 : Nat) : Int)]
def ueL (n : Nat) : List Int := fixL (n + 1) (2 * figs (n + 1) - 1)
theorem fixL_len (w : Nat) : ∀ x, (fixL x w).length = w := by
  induction w with
  | zero => intro x; rfl
  | succ w ih => intro x; simp [fixL, ih]
theorem figsF_lt (w : Nat) : ∀ x, x < 2 ^ w → ∀ v, w ≤ v → figsF v x = figsF w x := by
  induction w with
  | zero =>
    intro x hx v _
    have : x = 0 := by simpa using hx
    subst this
    cases v with
    | zero => rfl
    | succ v => simp [figsF]
  | succ w ih =>
    intro x hx v hv
    obtain ⟨v, rfl⟩ : ∃ m, v = m + 1 := ⟨v - 1, by omega⟩
    simp only [figsF]
    by_cases h0 : x = 0
    · rw [if_pos h0, if_pos h0]
    · rw [if_neg h0, if_neg h0, ih (x / 2) (by rw [Nat.pow_succ] at hx; omega) v (by omega)]
theorem figsF_le (w : Nat) : ∀ x, figsF w x ≤ w := by
  induction w with
  | zero => intro x; simp [figsF]
  | succ w ih =>
    intro x
    simp only [figsF]
    split
    · omega
    · have := ih (x / 2); omega
theorem figs_le (x : Nat) : figs x ≤ 64 := figsF_le 64 x
theorem figs_half {x : Nat} (h0 : 0 < x) (h : x < 2 ^ 64) : figs x = figs (x / 2) + 1 := by
  unfold figs
  rw [show figsF 64 x = figsF 63 (x / 2) + 1 by rw [show (64 : Nat) = 63 + 1 from rfl]; simp only [figsF]; rw [if_neg (by omega)]]
  rw [figsF_lt 63 (x / 2) (by omega) 64 (by omega)]
theorem figs_zero : figs 0 = 0 := rfl
theorem figs_pos {x : Nat} (h0 : 0 < x) (h : x < 2 ^ 64) : 0 < figs x := by rw [figs_half h0 h]; omega
theorem fixL_zero (w : Nat) : fixL 0 w = List.replicate w 48 := by
  induction w with
  | zero => rfl
  | succ w ih => simp only [fixL]; rw [ih, List.replicate_succ']; rfl
/-- More width: noughts ahead. -/
theorem fixL_more (w : Nat) : ∀ x, x < 2 ^ 64 → figs x ≤ w → fixL x w = List.replicate (w - figs x) 48 ++ fixL x (figs x) := by
  induction w with
  | zero =>
    intro x hx h
    have : figs x = 0 := by omega
    rw [this]; rfl
  | succ w ih =>
    intro x hx h
    by_cases h0 : x = 0
    · subst h0; rw [fixL_zero, figs_zero]; simp [fixL]
    · have e := figs_half (show 0 < x by omega) hx
      have i := ih (x / 2) (by omega) (by omega)
      have e2 : fixL x (figs x) = fixL (x / 2) (figs (x / 2)) ++ [48 + ((x % 2 : Nat) : Int)] := by rw [e]; rfl
      rw [e2, ← List.append_assoc]
      simp only [fixL]
      rw [i]
      congr 3
      omega
theorem ueL_eq (n : Nat) (h : n + 1 < 2 ^ 64) : ueL n = List.replicate (figs (n + 1) - 1) 48 ++ fixL (n + 1) (figs (n + 1)) := by
  have hp := figs_pos (x := n + 1) (by omega) h
  unfold ueL
  rw [fixL_more _ _ h (by omega)]
  congr 2
  omega
theorem ueL_len (n : Nat) : (ueL n).length ≤ 127 := by
  unfold ueL; rw [fixL_len]
  have := figs_le (n + 1)
  omega
theorem fixL_mem (w : Nat) : ∀ x, ∀ y ∈ fixL x w, y = 48 ∨ y = 49 := by
  induction w with
  | zero => intro x y hy; simp [fixL] at hy
  | succ w ih =>
    intro x y hy
    simp only [fixL, List.mem_append, List.mem_singleton] at hy
    rcases hy with hy | hy
    · exact ih _ y hy
    · omega
theorem ueL_mem (n : Nat) : ∀ y ∈ ueL n, y = 48 ∨ y = 49 := fixL_mem _ _
/-- Signs and counted numbers. -/
def foldN (x : Int) : Nat := if x > 0 then (2 * x - 1).toNat else (-2 * x).toNat
def isnz (x : Int) : Nat := if x = 0 then 0 else 1
def cntN (l : List Int) : Nat := (l.map isnz).sum
def rtL : Nat → List Int → List Int
  | _, [] => []
  | z, x :: l => if x = 0 then rtL (z + 1) l else ueL z ++ (ueL (foldN x) ++ rtL 0 l)
def runsL (l : List Int) : List Int := ueL (cntN l) ++ rtL 0 l
theorem rtL_len : ∀ (l : List Int) (z : Nat), (rtL z l).length ≤ 254 * l.length := by
  intro l
  induction l with
  | nil => intro z; simp [rtL]
  | cons x l ih =>
    intro z
    simp only [rtL]
    split
    · have := ih (z + 1); simp only [List.length_cons]; omega
    · have h1 := ueL_len z
      have h2 := ueL_len (foldN x)
      have h3 := ih 0
      simp only [List.length_append, List.length_cons]; omega
theorem strOfNums_append (a b : List Int) : strOfNums a ++ strOfNums b = strOfNums (a ++ b) := by
  apply ByteArray.ext
  simp [strOfNums, ByteArray.data_append]
theorem strOfNums_nil : strOfNums [] = (⟨#[]⟩ : ByteArray) := rfl
theorem bytesOf_strOfNums {l : List Int} (h : ∀ x ∈ l, 0 ≤ x ∧ x ≤ 255) : bytesOf (strOfNums l) = l := by
  unfold bytesOf
  rw [strOfNums_data, List.map_map]
  conv => rhs; rw [← List.map_id l]
  apply List.map_congr_left
  intro x hx
  have := h x hx
  simp
  omega
theorem tdiv2 {x : Nat} : Int.tdiv (x : Int) 2 = ((x / 2 : Nat) : Int) := by rw [Int.tdiv_eq_ediv_of_nonneg (by omega)]; omega
theorem tmod2 {x : Nat} : Int.tmod (x : Int) 2 = ((x % 2 : Nat) : Int) := by rw [Int.tmod_eq_emod_of_nonneg (by omega)]; omega
theorem fold_lt {x : Int} (h0 : -500000 ≤ x) (h1 : x ≤ 500000) : foldN x ≤ 1000000 := by unfold foldN; split <;> omega
theorem cntN_cons (x : Int) (l : List Int) : cntN (x :: l) = isnz x + cntN l := by simp [cntN]
theorem cntN_le (l : List Int) : cntN l ≤ l.length := by
  induction l with
  | nil => simp [cntN]
  | cons x l ih => rw [cntN_cons]; unfold isnz; simp only [List.length_cons]; split <;> omega

theorem brought_ev (n lo hi : Int) : Ev (fun k => spec_Brought.f k n lo hi) (mx lo (mn n hi)) := by
  unfold spec_Brought.f
  unfold mx mn
  by_cases c : hi < lo
  · refine Ev.congr (fun k => by rw [if_pos c]) (Ev.step (f := fun _ => some lo) (fun k => by simp only [spec_Brought.j0]; rfl) ?_)
    have e : (if lo < (if hi < n then hi else n) then (if hi < n then hi else n) else lo) = lo := by repeat' split <;> omega
    rw [e]; exact Ev.now _
  · by_cases c2 : n < lo
    · refine Ev.congr (fun k => by rw [if_neg c, show decide (n < lo) = true from decide_eq_true c2]) (Ev.step (f := fun _ => some lo) (fun k => by simp only [spec_Brought.j0]; rfl) ?_)
      have e : (if lo < (if hi < n then hi else n) then (if hi < n then hi else n) else lo) = lo := by repeat' split <;> omega
      rw [e]; exact Ev.now _
    · refine Ev.congr (fun k => by rw [if_neg c, show decide (n < lo) = false from decide_eq_false c2]) (Ev.step (f := fun _ => if n > hi then some hi else some n) (fun k => by simp only [spec_Brought.j0]; rfl) ?_)
      by_cases c3 : n > hi
      · have e : (if lo < (if hi < n then hi else n) then (if hi < n then hi else n) else lo) = hi := by repeat' split <;> omega
        rw [e]; simp only [c3, if_true]; exact Ev.now _
      · have e : (if lo < (if hi < n then hi else n) then (if hi < n then hi else n) else lo) = n := by repeat' split <;> omega
        rw [e]; simp only [c3, if_false]; exact Ev.now _
theorem mx0 {n hi : Int} (h : 0 ≤ hi) : 0 ≤ mx 0 (mn n hi) ∧ mx 0 (mn n hi) ≤ hi := by unfold mx mn; repeat' split <;> omega
def dotv (w h : Int) (d : ByteArray) (x y : Int) : Int := bt d (mx 0 (mn y (h - 1)) * w + mx 0 (mn x (w - 1)))
theorem spot {w h X Y : Int} (hw : 1 ≤ w) (hX : 0 ≤ X ∧ X ≤ w - 1) (hY : 0 ≤ Y ∧ Y ≤ h - 1) : 0 ≤ Y * w ∧ 0 ≤ Y * w + X ∧ Y * w + X < w * h := by
  have h1 : 0 ≤ Y * w := Int.mul_nonneg hY.1 (by omega)
  have h2 : Y * w ≤ (h - 1) * w := Int.mul_le_mul_of_nonneg_right hY.2 (by omega)
  have h3 : (h - 1) * w = w * h - w := by rw [Int.sub_mul, Int.one_mul, Int.mul_comm]
  omega
theorem dotv_range (w h : Int) (d : ByteArray) (x y : Int) : 0 ≤ dotv w h d x y ∧ dotv w h d x y ≤ 255 := bt_range _ _
theorem dot_eq (w h : Int) (d : ByteArray) (x y : Int) (hp : PicR w h d) : impl_Pic_dot.f w h d x y = some (dotv w h d x y) := by
  obtain ⟨hw, hh, hd⟩ := hp
  unfold impl_Pic_dot.f impl_Brought.f
  simp only [Option.bind_some]
  rw [wrap_id (x := h - 1) (by omega) (by omega), wrap_id (x := w - 1) (by omega) (by omega)]
  have hX := mx0 (n := x) (hi := w - 1) (by omega)
  have hY := mx0 (n := y) (hi := h - 1) (by omega)
  have hs := spot hw.1 hX hY
  have hm := small_mul (w := w) (h := h) (a := 256) (b := 256) (by omega) hw.2 (by omega) hh.2
  rw [wrap_id (x := mx 0 (mn y (h - 1)) * w) (by omega) (by omega), wrap_id (x := mx 0 (mn y (h - 1)) * w + mx 0 (mn x (w - 1))) (by omega) (by omega)]
  have hb := dotv_range w h d x y
  rw [if_pos hs.2.1, if_pos (by omega)]
  unfold dotv at hb ⊢
  rw [wrap_id (by omega) (by omega)]
theorem dotat_eq (w h : Int) (d : ByteArray) (x y : Int) : impl_DotAt.f w h d x y = some (if PicR w h d then dotv w h d x y else -1) := by
  unfold impl_DotAt.f
  rw [ipic_some, Option.bind_some]
  by_cases c : PicR w h d
  · rw [if_pos (decide_eq_true c), if_pos c, dot_eq w h d x y c]; rfl
  · rw [if_neg (by simp [c]), if_neg c]
theorem sdot_ev (w h : Int) (d : ByteArray) (x y : Int) : Ev (fun k => spec_DotAt.f k w h d x y) (if PicR w h d then dotv w h d x y else -1) := by
  unfold spec_DotAt.f
  rw [pic_some]
  simp only [Option.bind_some]
  by_cases c : PicR w h d
  · simp only [c, decide_true, if_true]
    obtain ⟨hw, hh, hd⟩ := c
    rw [wrap_id (x := h - 1) (by omega) (by omega), wrap_id (x := w - 1) (by omega) (by omega)]
    refine Ev.bind (brought_ev y 0 (h - 1)) (Ev.bind (brought_ev x 0 (w - 1)) ?_)
    have hX := mx0 (n := x) (hi := w - 1) (by omega)
    have hY := mx0 (n := y) (hi := h - 1) (by omega)
    have hs := spot hw.1 hX hY
    have hm := small_mul (w := w) (h := h) (a := 256) (b := 256) (by omega) hw.2 (by omega) hh.2
    rw [wrap_id (x := mx 0 (mn y (h - 1)) * w) (by omega) (by omega), wrap_id (x := mx 0 (mn y (h - 1)) * w + mx 0 (mn x (w - 1))) (by omega) (by omega)]
    have hb := dotv_range w h d x y
    rw [if_pos hs.2.1, if_pos (by omega)]
    unfold dotv at hb ⊢
    rw [wrap_id (by omega) (by omega)]
    exact Ev.now _
  · simp only [c, decide_false, Bool.false_eq_true, if_false]
    exact Ev.now _

theorem size_eq (x : Int) : impl_size.f x = some (mx x (wrap64 (-x))) := rfl
theorem mx_neg {x : Int} (h0 : -100000000000 ≤ x) (h1 : x ≤ 100000000000) : mx x (wrap64 (-x)) = if x < 0 then -x else x := by
  rw [wrap_id (by omega) (by omega)]
  unfold mx
  repeat' split <;> omega

def gapd (x y : Int) : Int := mx (wrap64 (wrap64 x - wrap64 y)) (wrap64 (-(wrap64 (wrap64 x - wrap64 y))))
/-- What lies between two texts from place i on, added to s. -/
def apsum (d e : ByteArray) : Nat → Nat → Int → Int
  | 0, _, s => s
  | n + 1, i, s => apsum d e n (i + 1) (wrap64 (s + gapd (bt d i) (bt e i)))
theorem bt64 (d : ByteArray) (i : Int) : -9223372036854775808 ≤ bt d i ∧ bt d i ≤ 9223372036854775807 := by have := bt_range d i; omega
theorem apart_loop (w h w' h' : Int) (d e : ByteArray) (n : Nat) (hd : d.size = n) (he : e.size = n) (hn : n ≤ 70000) :
    ∀ i, i ≤ n → ∀ s, Ev (fun k => impl_Apart.l0 k s (n : Int) (i : Int) w h d w' h' e) (apsum d e (n - i) i s) := by
  refine down n ?_ ?_
  · intro s
    rw [Nat.sub_self]
    refine Ev.step (f := fun _ => some s) (fun k => ?_) (Ev.now _)
    simp only [impl_Apart.l0]
    rw [if_neg (by omega)]
  · intro i hi hh s
    have e1 : n - i = (n - (i + 1)) + 1 := by omega
    rw [e1]
    refine Ev.step (fun k => ?_) (hh (wrap64 (s + gapd (bt d i) (bt e i))))
    simp only [impl_Apart.l0]
    rw [if_pos (by omega), if_pos (by omega), if_pos (by omega), if_pos (by omega), size_eq, Option.bind_some, wrap_id (x := (i : Int) + 1) (by omega) (by omega), cast1]
    rfl
def ApR (w h : Int) (d : ByteArray) (w' h' : Int) (e : ByteArray) : Prop := PicR w h d ∧ PicR w' h' e ∧ w = w' ∧ h = h'
instance (w h : Int) (d : ByteArray) (w' h' : Int) (e : ByteArray) : Decidable (ApR w h d w' h' e) := by unfold ApR; infer_instance
def apv (w h : Int) (d : ByteArray) (w' h' : Int) (e : ByteArray) : Int := if ApR w h d w' h' e then apsum d e d.size 0 0 else -1
theorem apr_size {w h : Int} {d : ByteArray} {w' h' : Int} {e : ByteArray} (H : ApR w h d w' h' e) : d.size = e.size ∧ d.size ≤ 65536 := by
  obtain ⟨⟨a, b, c⟩, ⟨a', b', c'⟩, rfl, rfl⟩ := H
  have hm := small_mul (w := w) (h := h) (a := 256) (b := 256) (by omega) a.2 (by omega) b.2
  omega
theorem apart_ev (w h : Int) (d : ByteArray) (w' h' : Int) (e : ByteArray) : Ev (fun k => impl_Apart.f k w h d w' h' e) (apv w h d w' h' e) := by
  unfold impl_Apart.f apv
  simp only [ipic_some, Option.bind_some]
  by_cases c : ApR w h d w' h' e
  · have hs := apr_size c
    rw [if_pos c]
    obtain ⟨c1, c2, c3, c4⟩ := c
    subst c3 c4
    simp only [c1, c2, decide_true, if_true, bne_self_eq_false]
    refine Ev.step (fun k => by simp only [impl_Apart.j0, Bool.false_eq_true, if_false]; rfl) ?_
    exact apart_loop w h w h d e d.size rfl hs.1.symm (by omega) 0 (by omega) 0
  · rw [if_neg c]
    have hj : Ev (fun k => impl_Apart.j0 k true w h d w' h' e) (-1) := Ev.step (f := fun _ => some (-1)) (fun k => by simp only [impl_Apart.j0]; rfl) (Ev.now _)
    by_cases c1 : PicR w h d
    · by_cases c2 : PicR w' h' e
      · by_cases c3 : w = w'
        · by_cases c4 : h = h'
          · exact absurd ⟨c1, c2, c3, c4⟩ c
          · subst c3
            simp only [c1, c2, decide_true, if_true, show (h != h') = true by simp [c4]]
            exact hj
        · simp only [c1, c2, c3, decide_true, if_true, if_false]; exact hj
      · simp only [c1, c2, decide_true, decide_false, if_true, Bool.false_eq_true, if_false]; exact hj
    · simp only [c1, decide_false, Bool.false_eq_true, if_false]; exact hj

theorem bt_nums (l : List Int) (hb : ∀ y ∈ l, 0 ≤ y ∧ y ≤ 255) (k : Int) : bt (strOfNums l) k = rd l k := by rw [← rd_bytesOf, bytesOf_strOfNums hb]
theorem bytes_cut (e : ByteArray) (a b : Nat) : bytesOf (e.extract a b) = ((bytesOf e).take b).drop a := by
  apply List.ext_getElem?
  intro i
  simp only [bytesOf, ByteArray.data_extract, Array.toList_extract, List.extract_eq_take_drop, List.map_take, List.map_drop, List.getElem?_drop, List.getElem?_take]
  by_cases c : a + i < b
  · rw [if_pos c, if_pos (by omega)]
  · rw [if_neg c, if_neg (by omega)]
theorem cutF_app (w : Int) (d : ByteArray) (x cw : Int) : ∀ (n : Nat) (y : Int) (out : List Int), cutF w d x cw n y out = out ++ cutF w d x cw n y []
  | 0, _, out => by simp [cutF]
  | n + 1, y, out => by rw [cutF, cutF_app w d x cw n (y + 1) (out ++ rowV w d x cw y), cutF, cutF_app w d x cw n (y + 1) ([] ++ rowV w d x cw y), List.append_assoc, List.nil_append]
theorem cutF_len (w : Int) (d : ByteArray) (x cw : Int) (c : Nat) : ∀ (n : Nat) (y : Int), (∀ y', y ≤ y' → y' < y + (n : Int) → (rowV w d x cw y').length = c) → (cutF w d x cw n y []).length = n * c
  | 0, _, _ => by simp [cutF]
  | n + 1, y, h => by
    rw [cutF, cutF_app, List.length_append, List.nil_append, h y (by omega) (by omega), cutF_len w d x cw c n (y + 1) (fun y' h1 h2 => h y' (by omega) (by omega)), Nat.add_mul, Nat.one_mul, Nat.add_comm]
theorem cutF_bytes (w : Int) (d : ByteArray) (x cw : Int) : ∀ (n : Nat) (y : Int), ∀ z ∈ cutF w d x cw n y [], 0 ≤ z ∧ z ≤ 255
  | 0, _, z, h => by simp [cutF] at h
  | n + 1, y, z, h => by
    rw [cutF, cutF_app, List.nil_append] at h
    rcases List.mem_append.1 h with h | h
    · unfold rowV bytesOf at h
      obtain ⟨u, _, rfl⟩ := List.mem_map.1 h
      have := u.toNat_lt
      omega
    · exact cutF_bytes w d x cw n (y + 1) z h
theorem cut_row (w : Int) (d : ByteArray) (x cw : Int) (c : Nat) : ∀ (n : Nat) (y : Int) (j : Nat), (∀ y', y ≤ y' → y' < y + (n : Int) → (rowV w d x cw y').length = c) → j < n → ((cutF w d x cw n y []).take ((j + 1) * c)).drop (j * c) = rowV w d x cw (y + (j : Int))
  | 0, _, _, _, hj => by omega
  | n + 1, y, 0, h, _ => by
    rw [cutF, cutF_app, List.nil_append, Nat.zero_mul, List.drop_zero, Nat.zero_add, Nat.one_mul, List.take_left' (h y (by omega) (by omega))]
    simp
  | n + 1, y, j + 1, h, hj => by
    have hl := h y (by omega) (by omega)
    have ih := cut_row w d x cw c n (y + 1) j (fun y' h1 h2 => h y' (by omega) (by omega)) (by omega)
    have e1 : (j + 1 + 1) * c = c + (j + 1) * c := by rw [Nat.add_mul (j + 1), Nat.one_mul, Nat.add_comm]
    have e2 : (j + 1) * c = c + j * c := by rw [Nat.add_mul, Nat.one_mul, Nat.add_comm]
    rw [cutF, cutF_app, List.nil_append, List.take_append, List.take_of_length_le (by rw [hl, e1]; omega), List.drop_append, List.drop_eq_nil_of_le (by rw [hl, e2]; omega), List.nil_append, hl, e1, Nat.add_sub_cancel_left]
    rw [show (j + 1) * c - c = j * c by rw [e2]; omega, ih]
    congr 1
    omega
theorem copyL_get : ∀ (ys : List Int) (i : Nat) (xs : List Int) (k : Nat), i + ys.length ≤ xs.length → (copyL xs i ys)[k]? = if i ≤ k ∧ k < i + ys.length then ys[k - i]? else xs[k]?
  | [], i, xs, k, _ => by rw [copyL, if_neg (by rw [List.length_nil]; omega)]
  | y :: ys, i, xs, k, h => by
    rw [List.length_cons] at h
    rw [copyL, copyL_get ys (i + 1) (xs.set i y) k (by rw [List.length_set]; omega), List.length_cons]
    by_cases c : k = i
    · subst c
      rw [if_neg (by omega), if_pos (by omega), List.getElem?_set_self (by omega), Nat.sub_self]
      rfl
    · rw [List.getElem?_set_ne (by omega)]
      by_cases c2 : i + 1 ≤ k ∧ k < i + 1 + ys.length
      · rw [if_pos c2, if_pos (by omega), show k - i = (k - (i + 1)) + 1 by omega, List.getElem?_cons_succ]
      · rw [if_neg c2, if_neg (by omega)]
theorem rd_copyL (ys : List Int) (i : Nat) (xs : List Int) (k : Int) (h : i + ys.length ≤ xs.length) (h0 : 0 ≤ k) : rd (copyL xs i ys) k = if (i : Int) ≤ k ∧ k < (i : Int) + (ys.length : Int) then rd ys (k - (i : Int)) else rd xs k := by
  unfold rd
  rw [List.getD_eq_getElem?_getD, List.getD_eq_getElem?_getD, List.getD_eq_getElem?_getD, copyL_get ys i xs k.toNat h]
  by_cases c : (i : Int) ≤ k ∧ k < (i : Int) + (ys.length : Int)
  · rw [if_pos (by omega), if_pos c, show (k - (i : Int)).toNat = k.toNat - i by omega]
  · rw [if_neg (by omega), if_neg c]
/-- The place (X, Y) lies in the rectangle's first n rows. -/
def inR (x y0 cw n X Y : Int) : Prop := (y0 ≤ Y ∧ Y < y0 + n) ∧ x ≤ X ∧ X < x + cw
instance (x y0 cw n X Y : Int) : Decidable (inR x y0 cw n X Y) := by unfold inR; infer_instance
theorem far_rows {w Y Z : Int} (hw : 0 ≤ w) (h : Y < Z) : Y * w + w ≤ Z * w := by
  have := Int.mul_le_mul_of_nonneg_right (show Y + 1 ≤ Z by omega) hw
  rw [Int.add_mul, Int.one_mul] at this
  exact this
section
variable {w h : Int} {a b : ByteArray} {x y0 cw ch : Int}
theorem row_rd (hp : PicR w h b) (hh : HoldR w h x y0 cw ch) (y : Int) (h0 : y0 ≤ y) (h1 : y + 1 ≤ y0 + ch) : (rowV w b x cw y).length = cw.toNat ∧ ∀ i : Int, 0 ≤ i → i < cw → rd (rowV w b x cw y) i = bt b (y * w + x + i) := by
  obtain ⟨f0, f1, f2, f3, f4⟩ := cut_facts w h b x y0 cw ch hp hh y h0 h1
  have q := hh
  unfold HoldR at q
  have hl : (rowV w b x cw y).length = cw.toNat := by
    unfold rowV
    rw [bytesOf_length, ByteArray.size_extract]
    omega
  refine ⟨hl, fun i i0 i1 => ?_⟩
  obtain ⟨j, rfl⟩ := Int.eq_ofNat_of_zero_le i0
  rw [rd_nat _ j (by omega)]
  have := bt_extract b (y * w + x).toNat (y * w + x + cw).toNat j (by omega) (by omega)
  rw [show (((y * w + x).toNat + j : Nat) : Int) = y * w + x + (j : Int) by omega] at this
  exact this
/-- Row j of what was cut is row y0 + j there. -/
theorem prow_cut (hp : PicR w h b) (hh : HoldR w h x y0 cw ch) (y : Int) (hy : 0 ≤ y) (hy1 : y + 1 ≤ ch) : prow (strOfNums (cutF w b x cw ch.toNat y0 [])) cw y = rowV w b x cw (y0 + y) := by
  have q := hh
  unfold HoldR at q
  unfold prow
  rw [bytes_cut, bytesOf_strOfNums (cutF_bytes w b x cw ch.toNat y0)]
  have := cut_row w b x cw cw.toNat ch.toNat y0 y.toNat (fun y' g0 g1 => (row_rd hp hh y' g0 (by omega)).1) (by omega)
  rw [show y0 + (y.toNat : Int) = y0 + y by omega] at this
  rw [← this, Int.toNat_mul (by omega) (by omega), Int.toNat_mul (by omega) (by omega), show (y + 1).toNat = y.toNat + 1 by omega]
theorem cut_pic (hp : PicR w h b) (hh : HoldR w h x y0 cw ch) : PicR cw ch (strOfNums (cutF w b x cw ch.toNat y0 [])) := by
  have q := hh
  unfold HoldR at q
  have q2 := hp
  unfold PicR at q2
  refine ⟨by omega, by omega, ?_⟩
  rw [strOfNums_size, cutF_len w b x cw cw.toNat ch.toNat y0 (fun y' g0 g1 => (row_rd hp hh y' g0 (by omega)).1)]
  rw [Int.natCast_mul, Int.toNat_of_nonneg (by omega), Int.toNat_of_nonneg (by omega), Int.mul_comm]
/-- What stands where, behind y rows. -/
def Pst (w h : Int) (a b : ByteArray) (x y0 cw y : Int) (out : List Int) : Prop := out.length = a.size ∧ ∀ X Y : Int, 0 ≤ X → X < w → 0 ≤ Y → Y < h → rd out (Y * w + X) = if inR x y0 cw y X Y then bt b (Y * w + X) else bt a (Y * w + X)
theorem pst_all (ha : PicR w h a) (hb : PicR w h b) (hh : HoldR w h x y0 cw ch) (n : Nat) : ∀ (y : Int) (out : List Int), y + (n : Int) = ch → 0 ≤ y → Pst w h a b x y0 cw y out → Pst w h a b x y0 cw ch (pstF w x y0 (strOfNums (cutF w b x cw ch.toNat y0 [])) cw n y out) := by
  have q := hh
  unfold HoldR at q
  have q2 := ha
  unfold PicR at q2
  induction n with
  | zero =>
    intro y out ey hy hP
    rw [pstF]
    rw [show y = ch by omega] at hP
    exact hP
  | succ n ih =>
    intro y out ey hy hP
    rw [pstF]
    refine ih (y + 1) _ (by omega) (by omega) ?_
    obtain ⟨f0, f1, f2, f3, f4⟩ := cut_facts w h a x y0 cw ch ha hh (y0 + y) (by omega) (by omega)
    obtain ⟨rl, rr⟩ := row_rd hb hh (y0 + y) (by omega) (by omega)
    rw [prow_cut hb hh y hy (by omega)]
    refine ⟨by rw [copyL_len]; exact hP.1, fun X Y X0 X1 Y0 Y1 => ?_⟩
    have hk : 0 ≤ Y * w := Int.mul_nonneg Y0 (by omega)
    rw [rd_copyL _ _ _ _ (by rw [rl, hP.1]; omega) (by omega), rl]
    have old := hP.2 X Y X0 X1 Y0 Y1
    have e1 : (((y0 + y) * w + x).toNat : Int) = (y0 + y) * w + x := Int.toNat_of_nonneg f0
    have e2 : (cw.toNat : Int) = cw := Int.toNat_of_nonneg (by omega)
    rw [e1, e2]
    have lo : Y < y0 + y → Y * w + w ≤ (y0 + y) * w := far_rows (by omega)
    have hi : y0 + y < Y → (y0 + y) * w + w ≤ Y * w := far_rows (by omega)
    by_cases c : Y = y0 + y ∧ x ≤ X ∧ X < x + cw
    · obtain ⟨rfl, c1, c2⟩ := c
      rw [if_pos (by omega), rr _ (by omega) (by omega), if_pos (show inR x y0 cw (y + 1) X (y0 + y) from ⟨by omega, c1, c2⟩)]
      congr 1
      omega
    · rw [if_neg (by
        rintro ⟨g0, g1⟩
        apply c
        by_cases t1 : Y < y0 + y
        · have := lo t1; omega
        · by_cases t2 : y0 + y < Y
          · have := hi t2; omega
          · have t3 : Y = y0 + y := by omega
            subst t3
            omega), old]
      by_cases c3 : inR x y0 cw y X Y
      · rw [if_pos c3, if_pos ⟨by have := c3.1; omega, c3.2⟩]
      · rw [if_neg c3, if_neg (by
          rintro ⟨g0, g1⟩
          by_cases t : Y = y0 + y
          · exact c ⟨t, g1⟩
          · exact c3 ⟨by omega, g1⟩)]
theorem place_of (hw : 1 ≤ w) {k : Int} (h0 : 0 ≤ k) (h1 : k < w * h) : ∃ X Y, k = Y * w + X ∧ 0 ≤ X ∧ X < w ∧ 0 ≤ Y ∧ Y < h := by
  refine ⟨k % w, k / w, ?_, Int.emod_nonneg _ (by omega), Int.emod_lt_of_pos _ (by omega), Int.ediv_nonneg h0 (by omega), ?_⟩
  · have := Int.mul_ediv_add_emod k w
    rw [Int.mul_comm] at this
    omega
  · rw [Int.mul_comm] at h1
    exact Int.ediv_lt_of_lt_mul (by omega) h1
/-- What was pasted: its size, its dots. -/
theorem pasted_dots (ha : PicR w h a) (hb : PicR w h b) (hh : HoldR w h x y0 cw ch) :
    ∃ P : List Int, pasteV w h a cw ch (strOfNums (cutF w b x cw ch.toNat y0 [])) x y0 = (w, h, strOfNums P, true) ∧ PicR w h (strOfNums P) ∧ ∀ X Y : Int, 0 ≤ X → X < w → 0 ≤ Y → Y < h → bt (strOfNums P) (Y * w + X) = if inR x y0 cw ch X Y then bt b (Y * w + X) else bt a (Y * w + X) := by
  have q := hh
  unfold HoldR at q
  have hc := cut_pic hb hh
  have hs := pst_all ha hb hh ch.toNat 0 (bytesOf a) (by omega) (by omega) ⟨bytesOf_length a, fun X Y X0 X1 Y0 Y1 => by rw [if_neg (by rintro ⟨g0, _⟩; omega), rd_bytesOf]⟩
  refine ⟨_, if_pos ⟨ha, hc, hh⟩, ?_, ?_⟩
  · exact ⟨ha.1, ha.2.1, by rw [strOfNums_size, hs.1]; exact ha.2.2⟩
  · have hby : ∀ y ∈ pstF w x y0 (strOfNums (cutF w b x cw ch.toNat y0 [])) cw ch.toNat 0 (bytesOf a), 0 ≤ y ∧ y ≤ 255 := by
      intro y hy
      obtain ⟨i, hi, rfl⟩ := List.getElem_of_mem hy
      have q2 := ha
      unfold PicR at q2
      have hi' := hi
      rw [hs.1] at hi'
      obtain ⟨X, Y, ek, X0, X1, Y0, Y1⟩ := place_of (w := w) (h := h) (k := (i : Int)) (by omega) (by omega) (by omega)
      have := hs.2 X Y X0 X1 Y0 Y1
      rw [← ek, rd_nat _ i hi] at this
      rw [this]
      have b1 := bt_range b (i : Int)
      have b2 := bt_range a (i : Int)
      split <;> omega
    intro X Y X0 X1 Y0 Y1
    rw [bt_nums _ hby]
    exact hs.2 X Y X0 X1 Y0 Y1
/-- .. and cut out again it is what it was. -/
theorem cut_again {d : ByteArray} (hb : PicR w h b) (hd : PicR w h d) (hh : HoldR w h x y0 cw ch) (he : ∀ X Y : Int, inR x y0 cw ch X Y → bt d (Y * w + X) = bt b (Y * w + X)) (n : Nat) : ∀ y : Int, y + (n : Int) = y0 + ch → y0 ≤ y → cutF w d x cw n y [] = cutF w b x cw n y [] := by
  have q := hh
  unfold HoldR at q
  induction n with
  | zero => intro y _ _; rfl
  | succ n ih =>
    intro y ey hy
    rw [cutF, cutF_app, cutF, cutF_app w b, ih (y + 1) (by omega) (by omega)]
    congr 2
    obtain ⟨l1, r1⟩ := row_rd hb hh y hy (by omega)
    obtain ⟨l2, r2⟩ := row_rd hd hh y hy (by omega)
    apply List.ext_getElem
    · rw [l1, l2]
    · intro i g1 g2
      have a1 := r1 (i : Int) (by omega) (by omega)
      have a2 := r2 (i : Int) (by omega) (by omega)
      rw [rd_nat _ i g2] at a1
      rw [rd_nat _ i g1] at a2
      rw [a1, a2]
      have := he (x + (i : Int)) y ⟨by omega, by omega, by omega⟩
      rw [show y * w + x + (i : Int) = y * w + (x + (i : Int)) by omega]
      exact this
end
/-! What lies between two pictures. -/
def ab (x y : Int) : Int := if x < y then y - x else x - y
def asum (d e : ByteArray) : Nat → Nat → Int
  | 0, _ => 0
  | n + 1, i => ab (bt d i) (bt e i) + asum d e n (i + 1)
theorem gapd_ab {x y : Int} (hx : 0 ≤ x ∧ x ≤ 255) (hy : 0 ≤ y ∧ y ≤ 255) : gapd x y = ab x y := by
  unfold gapd ab mx
  rw [wrap_id (x := x) (by omega) (by omega), wrap_id (x := y) (by omega) (by omega), wrap_id (x := x - y) (by omega) (by omega), wrap_id (x := -(x - y)) (by omega) (by omega)]
  split <;> split <;> omega
theorem ab_in {x y : Int} (hx : 0 ≤ x ∧ x ≤ 255) (hy : 0 ≤ y ∧ y ≤ 255) : 0 ≤ ab x y ∧ ab x y ≤ 255 ∧ (ab x y = 0 ↔ x = y) ∧ ab x y = ab y x := by
  unfold ab
  repeat' split
  all_goals omega
theorem asum_in (d e : ByteArray) : ∀ n i, 0 ≤ asum d e n i ∧ asum d e n i ≤ 255 * (n : Int)
  | 0, _ => by simp [asum]
  | n + 1, i => by
    have h1 := ab_in (bt_range d i) (bt_range e i)
    have h2 := asum_in d e n (i + 1)
    rw [asum]
    omega
theorem apsum_eq (d e : ByteArray) : ∀ (n i : Nat) (s : Int), 0 ≤ s → s + 255 * (n : Int) ≤ 100000000 → apsum d e n i s = s + asum d e n i
  | 0, _, s, _, _ => by rw [apsum, asum]; omega
  | n + 1, i, s, h0, h1 => by
    have g := ab_in (bt_range d i) (bt_range e i)
    rw [apsum, asum, gapd_ab (bt_range d i) (bt_range e i), wrap_id (by omega) (by omega), apsum_eq d e n (i + 1) _ (by omega) (by omega)]
    omega
theorem asum_comm (d e : ByteArray) : ∀ n i, asum d e n i = asum e d n i
  | 0, _ => rfl
  | n + 1, i => by rw [asum, asum, asum_comm d e n, (ab_in (bt_range d i) (bt_range e i)).2.2.2]
theorem asum_zero (d e : ByteArray) : ∀ (n i : Nat), asum d e n i = 0 ↔ ∀ k : Nat, i ≤ k → k < i + n → bt d (k : Int) = bt e (k : Int)
  | 0, i => ⟨fun _ k h1 h2 => by omega, fun _ => rfl⟩
  | n + 1, i => by
    have g := ab_in (bt_range d i) (bt_range e i)
    have g2 := asum_in d e n (i + 1)
    rw [asum]
    constructor
    · intro h k h1 h2
      by_cases c : k = i
      · subst c
        exact g.2.2.1.1 (by omega)
      · exact (asum_zero d e n (i + 1)).1 (by omega) k (by omega) (by omega)
    · intro h
      have h1 := g.2.2.1.2 (h i (by omega) (by omega))
      have h2 := (asum_zero d e n (i + 1)).2 (fun k k1 k2 => h k (by omega) (by omega))
      omega
theorem asum_le (p d e : ByteArray) : ∀ (n i : Nat), (∀ k : Nat, i ≤ k → k < i + n → bt p (k : Int) = bt d (k : Int) ∨ bt p (k : Int) = bt e (k : Int)) → asum p e n i ≤ asum d e n i
  | 0, _, _ => Int.le_refl _
  | n + 1, i, h => by
    have g := ab_in (bt_range d i) (bt_range e i)
    have g1 := (ab_in (bt_range e i) (bt_range e i)).2.2.1.2 rfl
    have g2 := asum_le p d e n (i + 1) (fun k k1 k2 => h k (by omega) (by omega))
    rw [asum, asum]
    rcases h i (by omega) (by omega) with q | q
    · rw [q]; omega
    · rw [q]; omega
theorem apv_eq {w h : Int} {d e : ByteArray} (hd : PicR w h d) (he : PicR w h e) : apv w h d w h e = asum d e d.size 0 := by
  have hr : ApR w h d w h e := ⟨hd, he, rfl, rfl⟩
  have hs := apr_size hr
  unfold apv
  rw [if_pos hr, apsum_eq d e d.size 0 0 (by omega) (by omega)]
  omega

theorem and_le (x : Int) (m : Nat) (hm : m < 9223372036854775808) : 0 ≤ Go.bits .and .i64 x (m : Int) ∧ Go.bits .and .i64 x (m : Int) ≤ (m : Int) := by
  have h : (BitVec.ofInt 64 x &&& BitVec.ofInt 64 (m : Int)).toNat ≤ m := by
    rw [BitVec.toNat_and]
    refine Nat.le_trans Nat.and_le_right ?_
    rw [BitVec.ofInt_natCast, BitVec.toNat_ofNat]
    exact Nat.mod_le _ _
  have e : Go.bits .and .i64 x (m : Int) = IntKind.i64.wrap (((BitVec.ofInt 64 x &&& BitVec.ofInt 64 (m : Int)).toNat : Nat) : Int) := rfl
  rw [e, IntKind.wrap_i64]
  omega

theorem rounds_ev {α : Type} {g : Nat → Option α} {r : α} (h : Ev g r) : ∃ k, g k = some r := h.rounds
theorem byte_at (b : List Int) (hb : b.length ≤ 140737488351232) (i h : Int) (h0 : 0 ≤ i) (h1 : i ≤ (b.length : Int)) :
    ∃ x i' h', spec_l01Byte.f b i h = some (x, i', h') ∧ 0 ≤ x ∧ x ≤ 255 ∧ 0 ≤ i' ∧ i' ≤ (b.length : Int) := by
  unfold spec_l01Byte.f
  by_cases c : i < (b.length : Int)
  · rw [if_pos c, if_pos h0]
    exact ⟨_, _, _, rfl, (and_le _ 255 (by decide)).1, (and_le _ 255 (by decide)).2, by rw [wrap_id (by omega) (by omega)]; omega, by rw [wrap_id (by omega) (by omega)]; omega⟩
  · rw [if_neg c]
    exact ⟨_, _, _, rfl, (and_le _ 255 (by decide)).1, (and_le _ 255 (by decide)).2, h0, h1⟩
theorem below_at (b : List Int) (hb : b.length ≤ 140737488351232) (i h n : Int) (h0 : 0 ≤ i) (h1 : i ≤ (b.length : Int)) (hn : 0 < n) :
    ∃ x i' h', spec_l01Below.f b i h n = some (x, i', h') ∧ 0 ≤ x ∧ x < n ∧ 0 ≤ i' ∧ i' ≤ (b.length : Int) := by
  unfold spec_l01Below.f
  rw [if_neg (by omega)]
  obtain ⟨x, i1, s1, e1, x0, x1, p1, q1⟩ := byte_at b hb i h h0 h1
  by_cases c : n ≤ 256
  · rw [if_pos c, e1, Option.bind_some, if_neg (by omega)]
    exact ⟨_, _, _, rfl, by simp only [Int.tmod_eq_emod_of_nonneg x0]; exact Int.emod_nonneg _ (by omega), by simp only [Int.tmod_eq_emod_of_nonneg x0]; exact Int.emod_lt_of_pos _ hn, p1, q1⟩
  · obtain ⟨y, i2, s2, e2, y0, y1, p2, q2⟩ := byte_at b hb i1 s1 p1 q1
    obtain ⟨z, i3, s3, e3, z0, z1, p3, q3⟩ := byte_at b hb i2 s2 p2 q2
    obtain ⟨w, i4, s4, e4, w0, w1, p4, q4⟩ := byte_at b hb i3 s3 p3 q3
    rw [if_neg c, e1, Option.bind_some]
    simp only []
    rw [e2, Option.bind_some]
    simp only []
    rw [e3, Option.bind_some]
    simp only []
    rw [e4, Option.bind_some, if_neg (by omega)]
    have hs : wrap64 (wrap64 (wrap64 (wrap64 (x * 16777216) + wrap64 (y * 65536)) + wrap64 (z * 256)) + w) = x * 16777216 + y * 65536 + z * 256 + w := by
      rw [wrap_id (x := x * 16777216) (by omega) (by omega), wrap_id (x := y * 65536) (by omega) (by omega), wrap_id (x := z * 256) (by omega) (by omega), wrap_id (x := x * 16777216 + y * 65536) (by omega) (by omega), wrap_id (x := x * 16777216 + y * 65536 + z * 256) (by omega) (by omega), wrap_id (by omega) (by omega)]
    refine ⟨_, _, _, rfl, ?_, ?_, p4, q4⟩
    · simp only [hs]; rw [Int.tmod_eq_emod_of_nonneg (by omega)]; exact Int.emod_nonneg _ (by omega)
    · simp only [hs]; rw [Int.tmod_eq_emod_of_nonneg (by omega)]; exact Int.emod_lt_of_pos _ hn
theorem below_any (b : List Int) (hb : b.length ≤ 140737488351232) (i h n : Int) (h0 : 0 ≤ i) (h1 : i ≤ (b.length : Int)) :
    ∃ x i' h', spec_l01Below.f b i h n = some (x, i', h') ∧ 0 ≤ x ∧ (0 < n → x < n) ∧ 0 ≤ i' ∧ i' ≤ (b.length : Int) := by
  by_cases hn : 0 < n
  · obtain ⟨x, i', h', e, x0, x1, p, q⟩ := below_at b hb i h n h0 h1 hn
    exact ⟨x, i', h', e, x0, fun _ => x1, p, q⟩
  · exact ⟨0, i, h, by unfold spec_l01Below.f; rw [if_pos (by omega)], by omega, fun h => absurd h hn, h0, h1⟩
theorem new_loop (l : List Int) (hl : l.length ≤ 140737488351232) (d : Nat) : ∀ h i : Int, 0 ≤ i → (l.length : Int) - i = d → ∃ h', Ev (fun k => spec_l01New.l0 k l h i) (l, 0, h') := by
  induction d with
  | zero =>
    intro h i h0 hd
    exact ⟨h, Ev.step (f := fun _ => some (l, 0, h)) (fun k => by simp only [spec_l01New.l0]; rw [if_neg (by omega)]) (Ev.now _)⟩
  | succ d ih =>
    intro h i h0 hd
    by_cases c : i < 4000
    · obtain ⟨h', e⟩ := ih (Go.bits .and .i64 (wrap64 ((wrap64 ((wrap64 (h * 131)) + (wrap64 (rd l i)))) + 7)) 1073741823) (i + 1) (by omega) (by omega)
      refine ⟨h', Ev.step (fun k => ?_) e⟩
      simp only [spec_l01New.l0]
      rw [if_pos (by omega), if_pos c, if_pos h0, wrap_id (x := i + 1) (by omega) (by omega)]
    · exact ⟨h, Ev.step (f := fun _ => some (l, 0, h)) (fun k => by simp only [spec_l01New.l0]; rw [if_pos (by omega), if_neg c]) (Ev.now _)⟩
theorem new_ev (l : List Int) (hl : l.length ≤ 140737488351232) : ∃ h, Ev (fun k => spec_l01New.f k l) (l, 0, h) := by
  obtain ⟨h, e⟩ := new_loop l hl l.length (wrap64 (94701 + (l.length : Int))) 0 (by omega) (by omega)
  exact ⟨h, e⟩
theorem rd_mem {l : List Int} {P : Int → Prop} (h : ∀ x ∈ l, P x) (i : Int) (h0 : 0 ≤ i) (h1 : i < (l.length : Int)) : P (rd l i) := by
  unfold rd
  rw [List.getD_eq_getElem?_getD, List.getElem?_eq_getElem (by omega)]
  exact h _ (List.getElem_mem _)
theorem places_loop (b : List Int) (hb : b.length ≤ 140737488351232) (d : Nat) : ∀ (out : List Int) (j i h : Int), 0 ≤ j → 12 - j = (d : Int) → (out.length : Int) = j → (∀ x ∈ out, 0 ≤ x ∧ x < 10000) → 0 ≤ i → i ≤ (b.length : Int) →
    ∃ p, Ev (fun k => spec_DrawPlaces.l0 k out j b i h) p ∧ p.length = 12 ∧ ∀ x ∈ p, 0 ≤ x ∧ x < 10000 := by
  induction d with
  | zero =>
    intro out j i h hj hd ho hx h0 h1
    exact ⟨out, Ev.step (f := fun _ => some out) (fun k => by simp only [spec_DrawPlaces.l0]; rw [if_neg (by omega)]) (Ev.now _), by omega, hx⟩
  | succ d ih =>
    intro out j i h hj hd ho hx h0 h1
    obtain ⟨x, i', h', e, x0, x1, p, q⟩ := below_at b hb i h 10000 h0 h1 (by omega)
    obtain ⟨r, er, hr⟩ := ih (out ++ [x]) (j + 1) i' h' (by omega) (by omega) (by simp; omega) (by
      intro y hy
      rcases List.mem_append.1 hy with hy | hy
      · exact hx y hy
      · simp at hy; subst hy; exact ⟨x0, x1⟩) p q
    refine ⟨r, Ev.step (fun k => ?_) er, hr⟩
    simp only [spec_DrawPlaces.l0]
    rw [if_pos (by omega), e, Option.bind_some, if_pos (by omega), wrap_id (x := j + 1) (by omega) (by omega)]
theorem places_ev (l : List Int) (hl : l.length ≤ 140737488351232) : ∃ p, Ev (fun k => spec_DrawPlaces.f k l) p ∧ p.length = 12 ∧ ∀ x ∈ p, 0 ≤ x ∧ x < 10000 := by
  obtain ⟨h, e⟩ := new_ev l hl
  obtain ⟨x, i', h', e1, x0, x1, p0, p1⟩ := byte_at l hl 0 h (by omega) (by omega)
  obtain ⟨p, ep, hp⟩ := places_loop l hl 12 [] 0 i' h' (by omega) (by omega) rfl (by simp) p0 p1
  refine ⟨p, ?_, hp⟩
  unfold spec_DrawPlaces.f
  refine Ev.bind e ?_
  simp only [e1, Option.bind_some]
  exact ep

theorem snoc_all {P : Int → Prop} {l : List Int} {x : Int} (h : ∀ y ∈ l, P y) (hx : P x) : ∀ y ∈ l ++ [x], P y := by
  intro y hy
  rcases List.mem_append.1 hy with hy | hy
  · exact h y hy
  · simp at hy; subst hy; exact hx
theorem mod256 (x : Int) : 0 ≤ x % 256 ∧ x % 256 ≤ 255 := by omega
theorem dots_loop (b : List Int) (hb : b.length ≤ 140737488351232) (n : Nat) (hn : n ≤ 1000000) (d : Nat) : ∀ (out : List Int) (x i p h : Int), 0 ≤ i → (n : Int) - i = (d : Int) → (out.length : Int) = i → (∀ y ∈ out, 0 ≤ y ∧ y ≤ 255) → 0 ≤ p → p ≤ (b.length : Int) →
    ∃ r p' h', Ev (fun k => spec_l12Dots.l0 k (n : Int) out x i b p h) (strOfNums r, p', h') ∧ r.length = n ∧ (∀ y ∈ r, 0 ≤ y ∧ y ≤ 255) ∧ 0 ≤ p' ∧ p' ≤ (b.length : Int) := by
  induction d with
  | zero =>
    intro out x i p h hi hd ho hx h0 h1
    exact ⟨out, p, h, Ev.step (f := fun _ => some (strOfNums out, p, h)) (fun k => by simp only [spec_l12Dots.l0]; rw [if_neg (by omega)]) (Ev.now _), by omega, hx, h0, h1⟩
  | succ d ih =>
    intro out x i p h hi hd ho hx h0 h1
    obtain ⟨y, p1, h1', e1, y0, y1, q0, q1⟩ := below_at b hb p h 6 h0 h1 (by omega)
    by_cases c0 : y = 0
    · obtain ⟨z, p2, h2', e2, z0, z1, s0, s1⟩ := byte_at b hb p1 h1' q0 q1
      obtain ⟨r, p', h', er, hr⟩ := ih (out ++ [z % 256]) z (i + 1) p2 h2' (by omega) (by omega) (by simp; omega) (snoc_all hx (mod256 _)) s0 s1
      refine ⟨r, p', h', Ev.step (fun k => ?_) er, hr⟩
      simp only [spec_l12Dots.l0]
      rw [if_pos (by omega), e1, Option.bind_some, if_pos c0, e2, Option.bind_some, if_pos (by omega), wrap_id (x := i + 1) (by omega) (by omega)]
    · by_cases c1 : y = 1
      · obtain ⟨z, p2, h2', e2, z0, z1, s0, s1⟩ := below_at b hb p1 h1' 9 q0 q1 (by omega)
        obtain ⟨r, p', h', er, hr⟩ := ih (out ++ [(Go.bits .and .i64 (wrap64 ((wrap64 (x + z)) + 252)) 255) % 256]) (Go.bits .and .i64 (wrap64 ((wrap64 (x + z)) + 252)) 255) (i + 1) p2 h2' (by omega) (by omega) (by simp; omega) (snoc_all hx (mod256 _)) s0 s1
        refine ⟨r, p', h', Ev.step (fun k => ?_) er, hr⟩
        simp only [spec_l12Dots.l0]
        rw [if_pos (by omega), e1, Option.bind_some, if_neg c0, if_pos c1, e2, Option.bind_some, if_pos (by omega), wrap_id (x := i + 1) (by omega) (by omega)]
      · obtain ⟨r, p', h', er, hr⟩ := ih (out ++ [x % 256]) x (i + 1) p1 h1' (by omega) (by omega) (by simp; omega) (snoc_all hx (mod256 _)) q0 q1
        refine ⟨r, p', h', Ev.step (fun k => ?_) er, hr⟩
        simp only [spec_l12Dots.l0]
        rw [if_pos (by omega), e1, Option.bind_some, if_neg c0, if_neg c1, if_pos (by omega), wrap_id (x := i + 1) (by omega) (by omega)]
theorem dots_ev (b : List Int) (hb : b.length ≤ 140737488351232) (p h : Int) (n : Nat) (hn : n ≤ 1000000) (h0 : 0 ≤ p) (h1 : p ≤ (b.length : Int)) :
    ∃ r p' h', Ev (fun k => spec_l12Dots.f k b p h (n : Int)) (strOfNums r, p', h') ∧ r.length = n ∧ (∀ y ∈ r, 0 ≤ y ∧ y ≤ 255) ∧ 0 ≤ p' ∧ p' ≤ (b.length : Int) := by
  obtain ⟨x, p1, h1', e1, x0, x1, q0, q1⟩ := byte_at b hb p h h0 h1
  obtain ⟨r, p', h', er, hr⟩ := dots_loop b hb n hn n [] x 0 p1 h1' (by omega) (by omega) rfl (by simp) q0 q1
  refine ⟨r, p', h', ?_, hr⟩
  unfold spec_l12Dots.f
  simp only [e1, Option.bind_some]
  exact er

theorem once_at (b : List Int) (hb : b.length ≤ 140737488351232) (i h n : Int) (h0 : 0 ≤ i) (h1 : i ≤ (b.length : Int)) (hn : 0 < n) :
    ∃ x i' h', spec_l01Once.f b i h n = some (x, i', h') ∧ 0 ≤ i' ∧ i' ≤ (b.length : Int) := by
  obtain ⟨x, i', h', e, _, _, p, q⟩ := below_at b hb i h n h0 h1 hn
  exact ⟨_, _, _, by unfold spec_l01Once.f; rw [e]; rfl, p, q⟩

theorem squares_at (b : List Int) (hb : b.length ≤ 140737488351232) (p h : Int) (h0 : 0 ≤ p) (h1 : p ≤ (b.length : Int)) :
    ∃ w v r p' h', Ev (fun k => spec_l12Squares.f k b p h) (w, v, strOfNums r, p', h') ∧ (w = 8 ∨ w = 16) ∧ (v = 8 ∨ v = 16) ∧ (r.length : Int) = w * v ∧ (∀ y ∈ r, 0 ≤ y ∧ y ≤ 255) ∧ 0 ≤ p' ∧ p' ≤ (b.length : Int) := by
  obtain ⟨x, p1, h1', e1, x0, x1, a0, a1⟩ := below_at b hb p h 2 h0 h1 (by omega)
  obtain ⟨y, p2, h2', e2, y0, y1, b0, b1⟩ := below_at b hb p1 h1' 2 a0 a1 (by omega)
  have wx : wrap64 (8 + wrap64 (8 * x)) = 8 + 8 * x := by rw [wrap_id (x := 8 * x) (by omega) (by omega), wrap_id (by omega) (by omega)]
  have wy : wrap64 (8 + wrap64 (8 * y)) = 8 + 8 * y := by clear wx; rw [wrap_id (x := 8 * y) (by omega) (by omega), wrap_id (by omega) (by omega)]
  obtain ⟨w, hw, ew⟩ : ∃ w : Int, (w = 8 ∨ w = 16) ∧ w = 8 + 8 * x := ⟨_, by clear wx wy; omega, rfl⟩
  obtain ⟨v, hv, ev⟩ : ∃ v : Int, (v = 8 ∨ v = 16) ∧ v = 8 + 8 * y := ⟨_, by clear wx wy; omega, rfl⟩
  rw [← ew] at wx
  rw [← ev] at wy
  have hn : ∃ n : Nat, (n : Int) = w * v ∧ n ≤ 1000000 := by
    clear wx wy
    rcases hw with rfl | rfl <;> rcases hv with rfl | rfl
    · exact ⟨64, rfl, by omega⟩
    · exact ⟨128, rfl, by omega⟩
    · exact ⟨128, rfl, by omega⟩
    · exact ⟨256, rfl, by omega⟩
  obtain ⟨n, en, hn⟩ := hn
  have wn : wrap64 (w * v) = (n : Int) := by clear wx wy; rw [← en, wrap_id (by omega) (by omega)]
  obtain ⟨r, p', h', er, rl, rb, q0, q1⟩ := dots_ev b hb p2 h2' n hn b0 b1
  refine ⟨w, v, r, p', h', ?_, hw, hv, by clear wx wy wn; omega, rb, q0, q1⟩
  unfold spec_l12Squares.f spec_l12Sized.f
  simp only [e1, e2, Option.bind_some, wx, wy, wn]
  exact Ev.bind (Ev.bind er (Ev.now _)) (Ev.now _)
theorem near_l1 (b : List Int) (hb : b.length ≤ 140737488351232) (w v : Int) (t : ByteArray) (n : Nat) (hn : 0 < n) (d : Nat) : ∀ (out : List Int) (i p h : Int), 0 ≤ i → 6 - i ≤ (d : Int) → out.length = n → (∀ y ∈ out, 0 ≤ y ∧ y ≤ 255) → 0 ≤ p → p ≤ (b.length : Int) →
    ∃ r p' h', Ev (fun k => spec_l17Near.l1 k out i b p h w v t) (w, v, strOfNums r, p', h') ∧ r.length = n ∧ (∀ y ∈ r, 0 ≤ y ∧ y ≤ 255) := by
  induction d with
  | zero =>
    intro out i p h hi hd ho hx h0 h1
    obtain ⟨y, p1, h1', e1, y0, y1, q0, q1⟩ := below_at b hb p h 6 h0 h1 (by omega)
    refine ⟨out, p1, h1', Ev.step (f := fun _ => some (w, v, strOfNums out, p1, h1')) (fun k => ?_) (Ev.now _), ho, hx⟩
    simp only [spec_l17Near.l1, e1, Option.bind_some]
    rw [if_neg (by omega)]
  | succ d ih =>
    intro out i p h hi hd ho hx h0 h1
    obtain ⟨y, p1, h1', e1, y0, y1, q0, q1⟩ := below_at b hb p h 6 h0 h1 (by omega)
    by_cases c : i < y
    · obtain ⟨z, p2, h2', e2, z0, z1, s0, s1⟩ := below_at b hb p1 h1' (out.length : Int) q0 q1 (by omega)
      obtain ⟨u, p3, h3', e3, u0, u1, r0, r1⟩ := byte_at b hb p2 h2' s0 s1
      obtain ⟨r, p', h', er, hr⟩ := ih (out.set z.toNat (u % 256)) (i + 1) p3 h3' (by omega) (by omega) (by rw [List.length_set, ho]) (fun y' hy' => by
        rcases List.mem_or_eq_of_mem_set hy' with hm | rfl
        · exact hx _ hm
        · exact mod256 _) r0 r1
      refine ⟨r, p', h', Ev.step (fun k => ?_) er, hr⟩
      simp only [spec_l17Near.l1, e1, Option.bind_some]
      rw [if_pos c]
      simp only [e2, e3, Option.bind_some]
      rw [if_pos z0, if_pos z1, wrap_id (x := i + 1) (by omega) (by omega)]
    · refine ⟨out, p1, h1', Ev.step (f := fun _ => some (w, v, strOfNums out, p1, h1')) (fun k => ?_) (Ev.now _), ho, hx⟩
      simp only [spec_l17Near.l1, e1, Option.bind_some]
      rw [if_neg c]
theorem near_l0 (b : List Int) (hb : b.length ≤ 140737488351232) (w v dx dy : Int) (t : ByteArray) (n : Nat) (hn : 0 < n) (hw : w = 8 ∨ w = 16) (ht : t.size = n) (hn1 : n ≤ 70000) (d : Nat) : ∀ (out : List Int) (i p h : Int), 0 ≤ i → (n : Int) - i = (d : Int) → (out.length : Int) = i → (∀ y ∈ out, 0 ≤ y ∧ y ≤ 255) → 0 ≤ p → p ≤ (b.length : Int) →
    ∃ r p' h', Ev (fun k => spec_l17Near.l0 k dx dy out i b p h w v t) (w, v, strOfNums r, p', h') ∧ r.length = n ∧ (∀ y ∈ r, 0 ≤ y ∧ y ≤ 255) := by
  induction d with
  | zero =>
    intro out i p h hi hd ho hx h0 h1
    obtain ⟨r, p', h', er, hr⟩ := near_l1 b hb w v t n hn 6 out 0 p h (by omega) (by omega) (by omega) hx h0 h1
    refine ⟨r, p', h', Ev.step (fun k => ?_) er, hr⟩
    simp only [spec_l17Near.l0]
    rw [if_neg (by omega)]
  | succ d ih =>
    intro out i p h hi hd ho hx h0 h1
    have es := sdot_ev w v t (wrap64 ((Int.tmod i w) + dx)) (wrap64 ((wrap64 (Int.tdiv i w)) + dy))
    generalize (if PicR w v t then dotv w v t (wrap64 ((Int.tmod i w) + dx)) (wrap64 ((wrap64 (Int.tdiv i w)) + dy)) else -1) = z at es
    obtain ⟨r, p', h', er, hr⟩ := ih (out ++ [z % 256]) (i + 1) p h (by omega) (by omega) (by simp; omega) (snoc_all hx (mod256 _)) h0 h1
    refine ⟨r, p', h', Ev.step (f := fun k => (spec_DotAt.f k w v t (wrap64 ((Int.tmod i w) + dx)) (wrap64 ((wrap64 (Int.tdiv i w)) + dy))).bind fun t211 => (spec_l17Near.l0 k dx dy (out ++ [t211 % 256]) (i + 1) b p h w v t)) (fun k => ?_) (Ev.bind es er), hr⟩
    simp only [spec_l17Near.l0]
    rw [if_pos (by omega), if_neg (by omega), wrap_id (x := i + 1) (by omega) (by omega)]
    have g : out.length < 140737488355328 := by omega
    simp only [g, if_true]
theorem near_at (b : List Int) (hb : b.length ≤ 140737488351232) (p h : Int) (h0 : 0 ≤ p) (h1 : p ≤ (b.length : Int)) (w v : Int) (t : ByteArray) (hw : w = 8 ∨ w = 16) (n : Nat) (ht : t.size = n) (hn : 0 < n) (hn1 : n ≤ 70000) :
    ∃ r p' h', Ev (fun k => spec_l17Near.f k b p h w v t) (w, v, strOfNums r, p', h') ∧ r.length = n ∧ (∀ y ∈ r, 0 ≤ y ∧ y ≤ 255) := by
  obtain ⟨x, p1, h1', e1, x0, x1, a0, a1⟩ := below_at b hb p h 7 h0 h1 (by omega)
  obtain ⟨y, p2, h2', e2, y0, y1, b0, b1⟩ := below_at b hb p1 h1' 5 a0 a1 (by omega)
  obtain ⟨z, p3, h3', e3, c0, c1⟩ := once_at b hb p2 h2' 3 b0 b1 (by omega)
  have H : ∀ dx dy : Int, ∃ r p' h', Ev (fun k => spec_l17Near.j0 k dx dy b p3 h3' w v t) (w, v, strOfNums r, p', h') ∧ r.length = n ∧ (∀ y ∈ r, 0 ≤ y ∧ y ≤ 255) := by
    intro dx dy
    obtain ⟨r, p', h', er, hr⟩ := near_l0 b hb w v dx dy t n hn hw ht hn1 n [] 0 p3 h3' (by omega) (by omega) rfl (by simp) c0 c1
    exact ⟨r, p', h', Ev.step (fun k => by simp only [spec_l17Near.j0]) er, hr⟩
  cases z with
  | true =>
    obtain ⟨r, p', h', er, hr⟩ := H 0 0
    refine ⟨r, p', h', ?_, hr⟩
    unfold spec_l17Near.f
    simp only [e1, e2, e3, Option.bind_some, if_true]
    exact er
  | false =>
    obtain ⟨r, p', h', er, hr⟩ := H (wrap64 (x - 3)) (wrap64 (y - 2))
    refine ⟨r, p', h', ?_, hr⟩
    unfold spec_l17Near.f
    simp only [e1, e2, e3, Option.bind_some, Bool.false_eq_true, if_false]
    exact er
theorem drawpics_ev (l : List Int) (hl : l.length ≤ 140737488351232) : ∃ w v ra rb, Ev (fun k => spec_DrawPics.f k l) (w, v, strOfNums ra, w, v, strOfNums rb) ∧ (w = 8 ∨ w = 16) ∧ (v = 8 ∨ v = 16) ∧ (ra.length : Int) = w * v ∧ (rb.length : Int) = w * v ∧ (∀ y ∈ ra, 0 ≤ y ∧ y ≤ 255) ∧ (∀ y ∈ rb, 0 ≤ y ∧ y ≤ 255) := by
  obtain ⟨h, en⟩ := new_ev l hl
  obtain ⟨w, v, ra, p, h1, es, hw, hv, la, ba, p0, p1⟩ := squares_at l hl 0 h (by omega) (by omega)
  have hpos : 0 < ra.length ∧ ra.length ≤ 256 := by rcases hw with rfl | rfl <;> rcases hv with rfl | rfl <;> omega
  obtain ⟨rb, p', h', er, lb, bb⟩ := near_at l hl p h1 p0 p1 w v (strOfNums ra) hw ra.length (strOfNums_size ra) hpos.1 (by omega)
  refine ⟨w, v, ra, rb, ?_, hw, hv, la, by omega, ba, bb⟩
  unfold spec_DrawPics.f
  exact Ev.bind en (Ev.bind es (Ev.bind er (Ev.now _)))

theorem tolist_nums {ra rb : List Int} (ha : ∀ y ∈ ra, 0 ≤ y ∧ y ≤ 255) (hb : ∀ y ∈ rb, 0 ≤ y ∧ y ≤ 255) (h : (strOfNums ra).toList = (strOfNums rb).toList) : ra = rb := by
  rw [ByteArray.toList_eq, ByteArray.toList_eq] at h
  rw [← bytesOf_strOfNums ha, ← bytesOf_strOfNums hb]
  unfold bytesOf
  rw [h]
theorem dot_in {w v : Int} {d : ByteArray} {X Y : Int} (hd : PicR w v d) (X0 : 0 ≤ X) (X1 : X < w) (Y0 : 0 ≤ Y) (Y1 : Y < v) : impl_DotAt.f w v d X Y = some (bt d (Y * w + X)) := by
  rw [dotat_eq, if_pos hd]
  have e1 : mx 0 (mn Y (v - 1)) = Y := by unfold mx mn; repeat' split <;> omega
  have e2 : mx 0 (mn X (w - 1)) = X := by unfold mx mn; repeat' split <;> omega
  unfold dotv
  rw [e1, e2]
theorem cuts_j1 (w v : Int) (hw : w = 8 ∨ w = 16) (hv : v = 8 ∨ v = 16) (ra rb : List Int) (la : (ra.length : Int) = w * v) (lb : (rb.length : Int) = w * v) (ba : ∀ y ∈ ra, 0 ≤ y ∧ y ≤ 255) (bb : ∀ y ∈ rb, 0 ≤ y ∧ y ≤ 255) (D C : ByteArray) (cw ch X Y : Int)
    (hD : PicR w v D) (hd : ∀ k : Nat, k < ra.length → bt D (k : Int) = bt (strOfNums ra) (k : Int) ∨ bt D (k : Int) = bt (strOfNums rb) (k : Int)) (X0 : 0 ≤ X) (X1 : X < w) (Y0 : 0 ≤ Y) (Y1 : Y < v) :
    Ev (fun k => laws_FnCuts.j1 k true true true X Y (bt D (Y * w + X)) w v (strOfNums ra) w v (strOfNums rb) cw ch C w v D cw ch C) true := by
  have hA : PicR w v (strOfNums ra) := ⟨by omega, by omega, by rw [strOfNums_size]; exact la⟩
  have hB : PicR w v (strOfNums rb) := ⟨by omega, by omega, by rw [strOfNums_size]; exact lb⟩
  have s1 := apart_ev w v (strOfNums ra) w v (strOfNums rb)
  have s2 := apart_ev w v (strOfNums rb) w v (strOfNums ra)
  have s3 := apart_ev w v D w v (strOfNums rb)
  have s4 := apart_ev w v (strOfNums ra) w v (strOfNums ra)
  rw [apv_eq hA hB, strOfNums_size] at s1
  rw [apv_eq hB hA, strOfNums_size, show rb.length = ra.length by omega, asum_comm] at s2
  have hDs : D.size = ra.length := by have := hD.2.2; omega
  rw [apv_eq hD hB, hDs] at s3
  rw [apv_eq hA hA, strOfNums_size, (asum_zero _ _ ra.length 0).2 (fun _ _ _ => rfl)] at s4
  have hle := asum_le D (strOfNums ra) (strOfNums rb) ra.length 0 (fun k _ hk => hd k (by omega))
  have hz : ((asum (strOfNums ra) (strOfNums rb) ra.length 0 == 0) == (w == w && (v == v && ((strOfNums ra).toList == (strOfNums rb).toList)))) = true := by
    by_cases c : ra = rb
    · subst c
      rw [(asum_zero _ _ ra.length 0).2 (fun _ _ _ => rfl)]
      simp
    · have h1 : ¬ asum (strOfNums ra) (strOfNums rb) ra.length 0 = 0 := by
        intro h
        apply c
        have ha := (asum_zero _ _ ra.length 0).1 h
        apply List.ext_getElem (by omega)
        intro i g1 g2
        have := ha i (by omega) (by omega)
        rw [bt_nums _ ba, bt_nums _ bb, rd_nat _ i g1, rd_nat _ i g2] at this
        exact this
      have h2 : ¬ (strOfNums ra).toList = (strOfNums rb).toList := fun h => c (tolist_nums ba bb h)
      rw [beq_eq_false_iff_ne.2 h1, beq_eq_false_iff_ne.2 h2]
      simp
  have hc : (cw == cw && (ch == ch && (C.toList == C.toList))) = true := by simp
  have hge : asum (strOfNums ra) (strOfNums rb) ra.length 0 ≥ asum D (strOfNums rb) ra.length 0 := hle
  refine Ev.step (fun k => by simp only [laws_FnCuts.j1, if_true, hc, dot_in hD X0 X1 Y0 Y1, Option.bind_some]; rfl) (Ev.bind s1 (Ev.bind s2 ?_))
  simp only [if_true]
  refine Ev.bind s1 ?_
  simp only [hz, if_true]
  refine Ev.bind s1 (Ev.bind s3 ?_)
  simp only [hge, if_true]
  refine Ev.bind s4 ?_
  simp only [beq_self_eq_true]
  exact Ev.now _
theorem tmod_in {a n : Int} (ha : 0 ≤ a) (hn : 0 < n) : 0 ≤ Int.tmod a n ∧ Int.tmod a n < n := by
  rw [Int.tmod_eq_emod_of_nonneg ha]
  exact ⟨Int.emod_nonneg _ (by omega), Int.emod_lt_of_pos _ hn⟩
theorem FnCuts : laws_FnCuts.Pure := by
  intro l _ hl _
  refine Ev.rounds ?_
  unfold laws_FnCuts.f laws_big.f
  simp only [Option.bind_some]
  by_cases c : (l.length : Int) > 1048576
  · simp only [c, decide_true, if_true]; exact Ev.now _
  · simp only [c, decide_false, Bool.false_eq_true, if_false]
    obtain ⟨w, v, ra, rb, ed, hw, hv, la, lb, ba, bb⟩ := drawpics_ev l (by omega)
    obtain ⟨p, ep, hp, hin⟩ := places_ev l (by omega)
    have r0 := rd_mem hin 0 (by omega) (by omega)
    have r1 := rd_mem hin 1 (by omega) (by omega)
    have r2 := rd_mem hin 2 (by omega) (by omega)
    have r3 := rd_mem hin 3 (by omega) (by omega)
    have r4 := rd_mem hin 4 (by omega) (by omega)
    have r5 := rd_mem hin 5 (by omega) (by omega)
    have g0 : 0 < (p.length : Int) := by omega
    have g1 : 1 < (p.length : Int) := by omega
    have g2 : 2 < (p.length : Int) := by omega
    have g3 : 3 < (p.length : Int) := by omega
    have g4 : 4 < (p.length : Int) := by omega
    have g5 : 5 < (p.length : Int) := by omega
    have nw : ¬ w = 0 := by omega
    have nv : ¬ v = 0 := by omega
    refine Ev.bind ed (Ev.bind ep ?_)
    simp only [g0, g1, g2, g3, g4, g5, nw, nv, if_true, if_false]
    obtain ⟨L, eL⟩ : ∃ L, Int.tmod (rd p 0) w = L := ⟨_, rfl⟩
    obtain ⟨T, eT⟩ : ∃ T, Int.tmod (rd p 1) v = T := ⟨_, rfl⟩
    have hL := tmod_in (a := rd p 0) (n := w) (by omega) (by omega)
    have hT := tmod_in (a := rd p 1) (n := v) (by omega) (by omega)
    rw [eL] at hL
    rw [eT] at hT
    have e1 : wrap64 (w - L) = w - L := wrap_id (by omega) (by omega)
    have e2 : wrap64 (v - T) = v - T := by clear e1; exact wrap_id (by omega) (by omega)
    have n1 : ¬ w - L = 0 := by clear e1 e2; omega
    have n2 : ¬ v - T = 0 := by clear e1 e2; omega
    have hW := tmod_in (a := rd p 2) (n := w - L) (by clear e1 e2; omega) (by clear e1 e2; omega)
    have hH := tmod_in (a := rd p 3) (n := v - T) (by clear e1 e2; omega) (by clear e1 e2; omega)
    obtain ⟨cw, ew⟩ : ∃ cw, 1 + Int.tmod (rd p 2) (w - L) = cw := ⟨_, rfl⟩
    obtain ⟨ch, eh⟩ : ∃ ch, 1 + Int.tmod (rd p 3) (v - T) = ch := ⟨_, rfl⟩
    have hcw : 1 ≤ cw ∧ cw ≤ w - L := by clear e1 e2; omega
    have hch : 1 ≤ ch ∧ ch ≤ v - T := by clear e1 e2; omega
    have e3 : wrap64 cw = cw := by clear e1 e2; exact wrap_id (by omega) (by omega)
    have e4 : wrap64 ch = ch := by clear e1 e2 e3; exact wrap_id (by omega) (by omega)
    have e5 : wrap64 (L + cw) = L + cw := by clear e1 e2 e3 e4; exact wrap_id (by omega) (by omega)
    have e6 : wrap64 (T + ch) = T + ch := by clear e1 e2 e3 e4 e5; exact wrap_id (by omega) (by omega)
    obtain ⟨X, eX⟩ : ∃ X, Int.tmod (rd p 4) w = X := ⟨_, rfl⟩
    obtain ⟨Y, eY⟩ : ∃ Y, Int.tmod (rd p 5) v = Y := ⟨_, rfl⟩
    have hX := tmod_in (a := rd p 4) (n := w) (by omega) (by clear e1 e2 e3 e4 e5 e6; omega)
    have hY := tmod_in (a := rd p 5) (n := v) (by omega) (by clear e1 e2 e3 e4 e5 e6; omega)
    rw [eX] at hX
    rw [eY] at hY
    simp only [eL, eT, e1, e2, n1, n2, ew, eh, e3, e4, e5, e6, eX, eY, if_false]
    clear e1 e2 e3 e4 e5 e6 eX eY ew eh eL eT hW hH n1 n2 nw nv g0 g1 g2 g3 g4 g5 r0 r1 r2 r3 r4 r5 hin hp ep ed
    have hA : PicR w v (strOfNums ra) := ⟨by omega, by omega, by rw [strOfNums_size]; exact la⟩
    have hB : PicR w v (strOfNums rb) := ⟨by omega, by omega, by rw [strOfNums_size]; exact lb⟩
    have hh : HoldR w v L T cw ch := ⟨by omega, by omega, by omega, by omega⟩
    have f1 := cutof_ev w v (strOfNums rb) L T cw ch
    unfold cutV at f1
    rw [if_pos ⟨hB, hh⟩] at f1
    obtain ⟨P, eP, hP, dP⟩ := pasted_dots hA hB hh
    have f2 := pasted_ev w v (strOfNums ra) cw ch (strOfNums (cutF w (strOfNums rb) L cw ch.toNat T [])) L T
    rw [eP] at f2
    have f3 := cutof_ev w v (strOfNums P) L T cw ch
    unfold cutV at f3
    rw [if_pos ⟨hP, hh⟩, cut_again hB hP hh (fun X' Y' hi => by
      rw [dP X' Y' (by have := hi.2; omega) (by have := hi.2; omega) (by have := hi.1; omega) (by have := hi.1; omega), if_pos hi]) ch.toNat T (by omega) (by omega)] at f3
    generalize cutF w (strOfNums rb) L cw ch.toNat T [] = cl at f1 f2 f3 eP
    have hj1 := cuts_j1 w v hw hv ra rb la lb ba bb (strOfNums P) (strOfNums cl) cw ch X Y hP (fun k hk => by
      obtain ⟨X', Y', ek, a0, a1, b0, b1⟩ := place_of (w := w) (h := v) (k := (k : Int)) (by omega) (by omega) (by omega)
      have := dP X' Y' a0 a1 b0 b1
      rw [← ek] at this
      rw [this]
      by_cases q : inR L T cw ch X' Y'
      · rw [if_pos q]; exact .inr rfl
      · rw [if_neg q]; exact .inl rfl) hX.1 hX.2 hY.1 hY.2
    have sp := spot (w := w) (h := v) (X := X) (Y := Y) (by omega) (by omega) (by omega)
    have hwv : w * v ≤ 256 := by rcases hw with rfl | rfl <;> rcases hv with rfl | rfl <;> omega
    have w1 : wrap64 (Y * w) = Y * w := wrap_id (by omega) (by omega)
    have w2 : wrap64 (Y * w + X) = Y * w + X := by clear w1; exact wrap_id (by omega) (by omega)
    have k1 : 0 ≤ Y * w + X := sp.2.1
    have k2 : Y * w + X < ((strOfNums ra).size : Int) := by clear w1 w2; rw [strOfNums_size]; omega
    have k3 : Y * w + X < ((strOfNums rb).size : Int) := by clear w1 w2; rw [strOfNums_size]; omega
    have v1 : wrap64 (bt (strOfNums ra) (Y * w + X)) = bt (strOfNums ra) (Y * w + X) := by clear w1 w2; have := bt_range (strOfNums ra) (Y * w + X); exact wrap_id (by omega) (by omega)
    have v2 : wrap64 (bt (strOfNums rb) (Y * w + X)) = bt (strOfNums rb) (Y * w + X) := by clear w1 w2 v1; have := bt_range (strOfNums rb) (Y * w + X); exact wrap_id (by omega) (by omega)
    have hd := dP X Y hX.1 hX.2 hY.1 hY.2
    have hj0 : ∀ q : Bool, q = decide (inR L T cw ch X Y) → Ev (fun k => laws_FnCuts.j0 k true true true X Y q w v (strOfNums ra) w v (strOfNums rb) cw ch (strOfNums cl) w v (strOfNums P) cw ch (strOfNums cl)) true := by
      intro q hq
      subst hq
      by_cases ci : inR L T cw ch X Y
      · rw [if_pos ci] at hd
        rw [hd] at hj1
        refine Ev.step (fun k => ?_) hj1
        simp only [laws_FnCuts.j0, w1, w2, k1, k2, k3, ci, decide_true, if_true, v2]
      · rw [if_neg ci] at hd
        rw [hd] at hj1
        refine Ev.step (fun k => ?_) hj1
        simp only [laws_FnCuts.j0, w1, w2, k1, k2, ci, decide_false, if_true, if_false, Bool.false_eq_true, v1]
    refine Ev.bind f1 (Ev.bind f2 (Ev.bind f3 ?_))
    by_cases c1 : X ≥ L
    · by_cases c2 : X < L + cw
      · by_cases c3 : Y ≥ T
        · simp only [c1, c2, c3, if_true]
          refine hj0 _ ?_
          rw [decide_eq_decide]
          exact ⟨fun g => ⟨⟨c3, g⟩, c1, c2⟩, fun g => g.1.2⟩
        · simp only [c1, c2, c3, if_true, if_false]
          exact hj0 _ (decide_eq_false (fun g => c3 g.1.1)).symm
      · simp only [c1, c2, if_true, if_false]
        exact hj0 _ (decide_eq_false (fun g => c2 g.2.2)).symm
    · simp only [c1, if_false]
      exact hj0 _ (decide_eq_false (fun g => c1 g.2.1)).symm

end Go.Proofs.Ytnaccgommclhaaa.Pure
