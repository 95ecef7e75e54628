/- The program's CutOf answers what the reference's CutOf answers, for all pictures and rectangles. No condition beside the row's own. -/
import Derived.Test.YtokaccgaendhmaaQFnExactCutOfx3
namespace Go.Proofs.Ytokaccgaendhmaa.Pure
open Go.RowKit Go.Proofs.Ytokaccgaendhmaa.QFnExactCutOf Go.Proofs.YtokaccgaendhmaaW.PrintWords Go.Proofs.YtokaccgaendhmaaW.PrintLast Go.Proofs.YtokaccgaendhmaaW.PrintMore
set_option linter.unusedVariables false
set_option linter.unusedSimpArgs false

theorem wrap_id {x : Int} (h0 : -9223372036854775808 ≤ x) (h1 : x ≤ 9223372036854775807) : wrap64 x = x := by
  unfold wrap64
  omega
theorem wf64 {n : Int} (h : (Lit.int .i64 n).wf = true) : -9223372036854775808 ≤ n ∧ n ≤ 9223372036854775807 := by
  simp [Lit.wf, IntKind.min, IntKind.max, IntKind.signed, IntKind.bits] at h
  omega
theorem wfu8 {n : Int} (h : (Lit.int .u8 n).wf = true) : 0 ≤ n ∧ n ≤ 255 := by
  simp [Lit.wf, IntKind.min, IntKind.max, IntKind.signed, IntKind.bits] at h
  omega
theorem within_eq (a b c : Int) : impl_within.f a b c = some (decide (b ≤ a ∧ a ≤ c)) := by
  unfold impl_within.f
  by_cases h : a ≥ b
  · rw [if_pos h]; congr 1; rw [decide_eq_decide]; omega
  · rw [if_neg h]; congr 1; symm; rw [decide_eq_false_iff_not]; omega
theorem in_eq (a b c : Int) : spec_l01In.f a b c = some (decide (b ≤ a ∧ a ≤ c)) := by
  unfold spec_l01In.f
  by_cases h : a ≥ b
  · rw [if_pos h]; congr 1; rw [decide_eq_decide]; omega
  · rw [if_neg h]; congr 1; symm; rw [decide_eq_false_iff_not]; omega

theorem sz_pic (w h : Int) (d : ByteArray) (left : Int) (hd : d.size ≤ maxLen) (h0 : 0 ≤ left) (h1 : left ≤ 1048576) : ∃ r, laws_szPic.f w h d left = some r ∧ (r = -1 ∨ (r = left - (d.size : Int) ∧ 0 ≤ r)) := by
  unfold maxLen at hd
  unfold laws_szPic.f
  rw [wrap_id (x := left - (d.size : Int)) (by omega) (by omega)]
  by_cases c : left - (d.size : Int) < 0
  · rw [if_pos c]; exact ⟨_, rfl, .inl rfl⟩
  · rw [if_neg c]; exact ⟨_, rfl, .inr ⟨rfl, by omega⟩⟩
theorem pic_same (w h : Int) (d : ByteArray) : impl_PicOk.f w h d = spec_PicOk.f w h d := by
  unfold impl_PicOk.f spec_PicOk.f
  simp only [within_eq, in_eq]
/-- What a right picture is. -/
def PicR (w h : Int) (d : ByteArray) : Prop := (1 ≤ w ∧ w ≤ 256) ∧ (1 ≤ h ∧ h ≤ 256) ∧ (d.size : Int) = w * h
instance (w h : Int) (d : ByteArray) : Decidable (PicR w h d) := by unfold PicR; infer_instance
theorem small_mul {w h a b : Int} (h0 : 0 ≤ w) (h1 : w ≤ a) (h2 : 0 ≤ h) (h3 : h ≤ b) : 0 ≤ w * h ∧ w * h ≤ a * b := by
  refine ⟨Int.mul_nonneg h0 h2, ?_⟩
  exact Int.mul_le_mul h1 h3 h2 (by omega)
theorem pic_some (w h : Int) (d : ByteArray) : spec_PicOk.f w h d = some (decide (PicR w h d)) := by
  unfold spec_PicOk.f PicR
  simp only [in_eq, Option.bind_some]
  by_cases c : 1 ≤ w ∧ w ≤ 256
  · by_cases c2 : 1 ≤ h ∧ h ≤ 256
    · have hm := small_mul (w := w) (h := h) (a := 256) (b := 256) (by omega) c.2 (by omega) c2.2
      simp only [c, c2, decide_true, if_true, true_and, and_self]
      rw [wrap_id (by omega) (by omega)]
      rfl
    · simp only [c, c2, decide_true, decide_false, if_true, true_and, false_and, and_self]
      rfl
  · simp only [c, decide_false, false_and]
    rfl
theorem ipic_some (w h : Int) (d : ByteArray) : impl_PicOk.f w h d = some (decide (PicR w h d)) := by
  unfold impl_PicOk.f PicR
  simp only [within_eq, Option.bind_some]
  by_cases c : 1 ≤ w ∧ w ≤ 256
  · by_cases c2 : 1 ≤ h ∧ h ≤ 256
    · have hm := small_mul (w := w) (h := h) (a := 256) (b := 256) (by omega) c.2 (by omega) c2.2
      simp only [c, c2, decide_true, if_true, true_and, and_self]
      rw [wrap_id (by omega) (by omega)]
      rfl
    · simp only [c, c2, decide_true, decide_false, if_true, true_and, false_and, and_self]
      rfl
  · simp only [c, decide_false, false_and]
    rfl

theorem down {P : Nat → Prop} (n : Nat) (h0 : P n) (hs : ∀ i, i < n → P (i + 1) → P i) : ∀ i, i ≤ n → P i := by
  intro i hi
  obtain ⟨d, hd⟩ : ∃ d, d = n - i := ⟨_, rfl⟩
  induction d generalizing i with
  | zero => have : i = n := by omega
            subst this; exact h0
  | succ d ih => exact hs i (by omega) (ih (i + 1) (by omega) (by omega))
theorem rd_nat (l : List Int) (i : Nat) (h : i < l.length) : rd l (i : Int) = l[i] := by
  unfold rd
  rw [List.getD_eq_getElem?_getD, Int.toNat_natCast, List.getElem?_eq_getElem h]; rfl
theorem cast1 (i : Nat) : ((i : Nat) : Int) + 1 = ((i + 1 : Nat) : Int) := rfl
theorem mix_set {α : Type} (l z : List α) (i : Nat) (hi : i < l.length) (hz : i < z.length) : (l.take i ++ z.drop i).set i l[i] = l.take (i + 1) ++ z.drop (i + 1) := by
  rw [List.set_append_right _ _ (by simp; omega)]
  rw [show i - (l.take i).length = 0 by simp; omega]
  rw [List.drop_eq_getElem_cons hz, List.set_cons_zero, List.take_succ_eq_append_getElem hi, List.append_assoc]; rfl
theorem mix_length {α : Type} (l z : List α) (i : Nat) (h : l.length = z.length) (hi : i ≤ l.length) : (l.take i ++ z.drop i).length = l.length := by
  simp; omega
theorem mix_end {α : Type} (l z : List α) (h : l.length = z.length) : l.take l.length ++ z.drop l.length = l := by
  rw [List.take_length, h, List.drop_length, List.append_nil]
theorem mix_zero {α : Type} (l z : List α) : l.take 0 ++ z.drop 0 = z := by simp
theorem drop_cons {α : Type} {l : List α} {i : Nat} (h : i < l.length) : l.drop i = l[i] :: l.drop (i + 1) := List.drop_eq_getElem_cons h
/-- All numbers of a list are from lo to hi. -/
def allB (lo hi : Int) (l : List Int) : Bool := l.all fun x => decide (lo ≤ x ∧ x ≤ hi)
theorem allB_cons (lo hi x : Int) (l : List Int) : allB lo hi (x :: l) = (decide (lo ≤ x ∧ x ≤ hi) && allB lo hi l) := rfl
theorem allB_iff {lo hi : Int} {l : List Int} : allB lo hi l = true ↔ ∀ x ∈ l, lo ≤ x ∧ x ≤ hi := by
  unfold allB
  rw [List.all_eq_true]
  simp only [decide_eq_true_eq]

def rowV (w : Int) (d : ByteArray) (x cw y : Int) : List Int := bytesOf (d.extract (y * w + x).toNat (y * w + x + cw).toNat)
/-- The dots of n rows of a cut from row y on, behind out. -/
def cutF (w : Int) (d : ByteArray) (x cw : Int) : Nat → Int → List Int → List Int
  | 0, _, out => out
  | n + 1, y, out => cutF w d x cw n (y + 1) (out ++ rowV w d x cw y)
/-- The rectangle lies inside. -/
def HoldR (w h x y cw ch : Int) : Prop := (1 ≤ cw ∧ cw ≤ w) ∧ (1 ≤ ch ∧ ch ≤ h) ∧ (0 ≤ x ∧ x ≤ w - cw) ∧ (0 ≤ y ∧ y ≤ h - ch)
instance (w h x y cw ch : Int) : Decidable (HoldR w h x y cw ch) := by unfold HoldR; infer_instance
theorem cut_facts (w h : Int) (d : ByteArray) (x y0 cw ch : Int) (hp : PicR w h d) (hh : HoldR w h x y0 cw ch) (y : Int) (h0 : y0 ≤ y) (h1 : y + 1 ≤ y0 + ch) :
    0 ≤ y * w + x ∧ y * w + x + cw ≤ (d.size : Int) ∧ 0 ≤ y * w ∧ y * w ≤ 65536 ∧ (d.size : Int) ≤ 65536 := by
  unfold HoldR at hh
  unfold PicR at hp
  have a := small_mul (w := y) (h := w) (a := 256) (b := 256) (by omega) (by omega) (by omega) (by omega)
  have b := small_mul (w := w) (h := h) (a := 256) (b := 256) (by omega) (by omega) (by omega) (by omega)
  have c : (y + 1) * w ≤ h * w := Int.mul_le_mul_of_nonneg_right (by omega) (by omega)
  have e : (y + 1) * w = y * w + w := by rw [Int.add_mul, Int.one_mul]
  have f : h * w = w * h := Int.mul_comm _ _
  rw [e, f] at c
  omega
def cutV (w h : Int) (d : ByteArray) (x y cw ch : Int) : Int × Int × ByteArray × Bool := if PicR w h d ∧ HoldR w h x y cw ch then (cw, ch, strOfNums (cutF w d x cw ch.toNat y []), true) else (0, 0, (⟨#[]⟩ : ByteArray), false)
theorem holds_eq (w h : Int) (d : ByteArray) (x y cw ch : Int) (hp : PicR w h d) : impl_Pic_holds.f w h d x y cw ch = some (decide (HoldR w h x y cw ch)) := by
  unfold impl_Pic_holds.f HoldR
  unfold PicR at hp
  simp only [within_eq, Option.bind_some]
  by_cases c1 : 1 ≤ cw ∧ cw ≤ w
  · by_cases c2 : 1 ≤ ch ∧ ch ≤ h
    · rw [wrap_id (x := w - cw) (by omega) (by omega), wrap_id (x := h - ch) (by omega) (by omega)]
      by_cases c3 : 0 ≤ x ∧ x ≤ w - cw
      · simp only [c1, c2, c3, decide_true, if_true, true_and, and_self]
      · simp only [c1, c2, c3, decide_true, decide_false, if_true, true_and, false_and, and_self, Bool.false_eq_true, if_false]
    · simp only [c1, c2, decide_true, decide_false, if_true, true_and, false_and, and_self, Bool.false_eq_true, if_false]
  · simp only [c1, decide_false, false_and, Bool.false_eq_true, if_false]
theorem sholds_eq (w h : Int) (d : ByteArray) (x y cw ch : Int) : spec_l12Within.f w h d x y cw ch = some (decide (PicR w h d ∧ HoldR w h x y cw ch)) := by
  unfold spec_l12Within.f
  rw [pic_some, Option.bind_some]
  by_cases hp : PicR w h d
  · have hp' := hp
    unfold PicR at hp'
    unfold HoldR
    simp only [in_eq, Option.bind_some, hp, decide_true, if_true, true_and]
    by_cases c1 : 1 ≤ cw ∧ cw ≤ w
    · by_cases c2 : 1 ≤ ch ∧ ch ≤ h
      · rw [wrap_id (x := w - cw) (by omega) (by omega), wrap_id (x := h - ch) (by omega) (by omega)]
        by_cases c3 : 0 ≤ x ∧ x ≤ w - cw
        · simp only [c1, c2, c3, decide_true, if_true, true_and, and_self]
        · simp only [c1, c2, c3, decide_true, decide_false, if_true, true_and, false_and, and_self, Bool.false_eq_true, if_false]
      · simp only [c1, c2, decide_true, decide_false, if_true, true_and, false_and, and_self, Bool.false_eq_true, if_false]
    · simp only [c1, decide_false, false_and, Bool.false_eq_true, if_false]
  · simp only [hp, decide_false, false_and, Bool.false_eq_true, if_false]
theorem cut_loop (w h : Int) (d : ByteArray) (x y0 cw ch : Int) (hp : PicR w h d) (hh : HoldR w h x y0 cw ch) (n : Nat) : ∀ (y : Int) (out : List Int), y + (n : Int) = y0 + ch → y0 ≤ y → out.length + 70000 * n ≤ 30000000 →
    Ev (fun k => impl_CutOf.l0 k out y w h d x y0 cw ch) (cw, ch, strOfNums (cutF w d x cw n y out), true) := by
  have q := hh
  unfold HoldR at q
  have q2 := hp
  unfold PicR at q2
  induction n with
  | zero =>
    intro y out e hy hl
    refine Ev.step (f := fun _ => some (cw, ch, strOfNums out, true)) (fun k => ?_) (Ev.now _)
    simp only [impl_CutOf.l0]
    rw [wrap_id (x := y0 + ch) (by omega) (by omega), if_neg (by omega)]
  | succ n ih =>
    intro y out e hy hl
    obtain ⟨f0, f1, f2, f3, f4⟩ := cut_facts w h d x y0 cw ch hp hh y hy (by omega)
    have hr : (rowV w d x cw y).length ≤ 70000 := by
      unfold rowV
      rw [bytesOf_length, ByteArray.size_extract]
      omega
    have h' := ih (y + 1) (out ++ rowV w d x cw y) (by omega) (by omega) (by rw [List.length_append]; omega)
    have g1 : y < y0 + ch := by omega
    have g2 : y * w + x ≤ y * w + x + cw := by omega
    have g3 : out.length + (d.extract (y * w + x).toNat (y * w + x + cw).toNat).size < 140737488355328 := by
      rw [ByteArray.size_extract]; omega
    have w1 : wrap64 (y0 + ch) = y0 + ch := wrap_id (by omega) (by omega)
    have w2 : wrap64 (y * w) = y * w := by clear w1; exact wrap_id (by omega) (by omega)
    have w3 : wrap64 (y * w + x) = y * w + x := by clear w1 w2; exact wrap_id (by omega) (by omega)
    have w4 : wrap64 (y * w + x + cw) = y * w + x + cw := by clear w1 w2 w3; exact wrap_id (by omega) (by omega)
    have w5 : wrap64 (y + 1) = y + 1 := by clear w1 w2 w3 w4; exact wrap_id (by omega) (by omega)
    refine Ev.step (fun k => ?_) h'
    simp only [impl_CutOf.l0]
    rw [w1, if_pos g1, w2, w3, w4, if_pos f0, if_pos g2, if_pos f1, if_pos g3, w5]
    rfl
theorem scut_loop (w h : Int) (d : ByteArray) (x y0 cw ch : Int) (hp : PicR w h d) (hh : HoldR w h x y0 cw ch) (n : Nat) : ∀ (y : Int) (out : List Int), y + (n : Int) = y0 + ch → y0 ≤ y → out.length + 70000 * n ≤ 30000000 →
    Ev (fun k => spec_CutOf.l0 k out y w h d x y0 cw ch) (cw, ch, strOfNums (cutF w d x cw n y out), true) := by
  have q := hh
  unfold HoldR at q
  have q2 := hp
  unfold PicR at q2
  induction n with
  | zero =>
    intro y out e hy hl
    refine Ev.step (f := fun _ => some (cw, ch, strOfNums out, true)) (fun k => ?_) (Ev.now _)
    simp only [spec_CutOf.l0]
    rw [wrap_id (x := y0 + ch) (by omega) (by omega), if_neg (by omega)]
  | succ n ih =>
    intro y out e hy hl
    obtain ⟨f0, f1, f2, f3, f4⟩ := cut_facts w h d x y0 cw ch hp hh y hy (by omega)
    have hr : (rowV w d x cw y).length ≤ 70000 := by
      unfold rowV
      rw [bytesOf_length, ByteArray.size_extract]
      omega
    have h' := ih (y + 1) (out ++ rowV w d x cw y) (by omega) (by omega) (by rw [List.length_append]; omega)
    have g1 : y < y0 + ch := by omega
    have g2 : y * w + x ≤ y * w + x + cw := by omega
    have g3 : out.length + (d.extract (y * w + x).toNat (y * w + x + cw).toNat).size < 140737488355328 := by
      rw [ByteArray.size_extract]; omega
    have w1 : wrap64 (y0 + ch) = y0 + ch := wrap_id (by omega) (by omega)
    have w2 : wrap64 (y * w) = y * w := by clear w1; exact wrap_id (by omega) (by omega)
    have w3 : wrap64 (y * w + x) = y * w + x := by clear w1 w2; exact wrap_id (by omega) (by omega)
    have w4 : wrap64 (y * w + x + cw) = y * w + x + cw := by clear w1 w2 w3; exact wrap_id (by omega) (by omega)
    have w5 : wrap64 (y + 1) = y + 1 := by clear w1 w2 w3 w4; exact wrap_id (by omega) (by omega)
    refine Ev.step (fun k => ?_) h'
    simp only [spec_CutOf.l0]
    rw [w1, if_pos g1, w2, w3, w4, if_pos f0, if_pos g2, if_pos f1, if_pos g3, w5]
    rfl
theorem cutof_ev (w h : Int) (d : ByteArray) (x y cw ch : Int) : Ev (fun k => impl_CutOf.f k w h d x y cw ch) (cutV w h d x y cw ch) := by
  unfold impl_CutOf.f cutV
  have hbad : Ev (fun k => impl_CutOf.j0 k true w h d x y cw ch) (0, 0, (⟨#[]⟩ : ByteArray), false) := Ev.step (f := fun _ => some (0, 0, (⟨#[]⟩ : ByteArray), false)) (fun k => by simp only [impl_CutOf.j0]; rfl) (Ev.now _)
  rw [ipic_some]
  simp only [Option.bind_some]
  by_cases hp : PicR w h d
  · rw [holds_eq w h d x y cw ch hp]
    simp only [hp, decide_true, if_true, true_and, Option.bind_some]
    by_cases hh : HoldR w h x y cw ch
    · rw [if_pos hh]
      simp only [hh, decide_true, Bool.not_true]
      have q := hh
      unfold HoldR at q
      have q2 := hp
      unfold PicR at q2
      have b := small_mul (w := cw) (h := ch) (a := 256) (b := 256) (by omega) (by omega) (by omega) (by omega)
      have hl := cut_loop w h d x y cw ch hp hh ch.toNat y [] (by omega) (by omega) (by simp; omega)
      have w1 : wrap64 (cw * ch) = cw * ch := wrap_id (by omega) (by omega)
      have g1 : (cw * ch).toNat ≤ 281474976710656 := by clear w1 hl; omega
      refine Ev.step (fun k => ?_) hl
      simp only [impl_CutOf.j0, Bool.false_eq_true, if_false]
      rw [w1, if_pos b.1, if_pos g1]
    · rw [if_neg hh]
      simp only [hh, decide_false, Bool.not_false]
      exact hbad
  · simp only [hp, decide_false, false_and, if_false, Bool.false_eq_true]
    exact hbad
theorem scutof_ev (w h : Int) (d : ByteArray) (x y cw ch : Int) : Ev (fun k => spec_CutOf.f k w h d x y cw ch) (cutV w h d x y cw ch) := by
  unfold spec_CutOf.f cutV
  rw [sholds_eq]
  simp only [Option.bind_some]
  by_cases hq : PicR w h d ∧ HoldR w h x y cw ch
  · rw [if_pos hq]
    simp only [hq, and_self, decide_true, if_true]
    have q := hq.2
    unfold HoldR at q
    have q2 := hq.1
    unfold PicR at q2
    exact scut_loop w h d x y cw ch hq.1 hq.2 ch.toNat y [] (by omega) (by omega) (by simp; omega)
  · rw [if_neg hq]
    simp only [hq, decide_false, if_false, Bool.false_eq_true]
    exact Ev.now _

theorem FnExactCutOf : laws_FnExactCutOf.Pure := by
  intro w h d x y cw ch _ _ hd _ _ _ _
  refine Ev.rounds ?_
  unfold laws_FnExactCutOf.f laws_toPic.f laws_toRect.f
  obtain ⟨r, e, hr⟩ := sz_pic w h d 1048576 hd (by omega) (by omega)
  rw [e]
  simp only [Option.bind_some]
  by_cases c : r < 0
  · simp only [c, if_true]; exact Ev.now _
  · simp only [c, if_false]
    have hS := scutof_ev w h d x y cw ch
    have hI := cutof_ev w h d x y cw ch
    generalize cutV w h d x y cw ch = v at hS hI
    refine Ev.bind hS (Ev.bind hI ?_)
    unfold laws_eqPic.f
    simp only [if_true, Option.bind_some, bne_self_eq_false]
    exact Ev.step (f := fun _ => some true) (fun k => by simp only [laws_FnExactCutOf.j0, Bool.false_eq_true, if_false]) (Ev.now _)

end Go.Proofs.Ytokaccgaendhmaa.Pure
