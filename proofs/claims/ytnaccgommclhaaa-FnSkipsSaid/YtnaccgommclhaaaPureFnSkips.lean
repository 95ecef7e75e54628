/- A tile of skipped squares shows what was there, confined or not: the law FnSkips answers true of every row of bytes. No condition beside the row's own. -/
import Derived.Test.YtnaccgommclhaaaQFnSkipsx19
namespace Go.Proofs.Ytnaccgommclhaaa.Pure
open Go.RowKit Go.Proofs.Ytnaccgommclhaaa.QFnSkips Go.Proofs.YtnaccgommclhaaaW.PrintWords Go.Proofs.YtnaccgommclhaaaW.PrintLast Go.Proofs.YtnaccgommclhaaaW.PrintMore Go.Proofs.YtnaccgommclhaaaV
set_option linter.unusedVariables false
set_option linter.unusedSimpArgs false
theorem wrap_id {x : Int} (h0 : -9223372036854775808 ≤ x) (h1 : x ≤ 9223372036854775807) : wrap64 x = x := by
 unfold wrap64
 omega
theorem within_eq (a b c : Int) : impl_within.f a b c = some (decide (b ≤ a ∧ a ≤ c)) := by
 unfold impl_within.f
 by_cases h : a ≥ b
 ·rw [if_pos h]; congr 1; rw [decide_eq_decide]; omega
 ·rw [if_neg h]; congr 1; symm; rw [decide_eq_false_iff_not]; omega
/-- What a right picture is. -/
def PicR (w h : Int) (d : ByteArray) : Prop := (1 ≤ w ∧ w ≤ 256) ∧ (1 ≤ h ∧ h ≤ 256) ∧ (d.size : Int) = w * h
instance (w h : Int) (d : ByteArray) : Decidable (PicR w h d) := by unfold PicR; infer_instance
theorem small_mul {w h a b : Int} (h0 : 0 ≤ w) (h1 : w ≤ a) (h2 : 0 ≤ h) (h3 : h ≤ b) : 0 ≤ w * h ∧ w * h ≤ a * b := by
 refine ⟨Int.mul_nonneg h0 h2, ?_⟩
 exact Int.mul_le_mul h1 h3 h2 (by omega)
theorem ipic_some (w h : Int) (d : ByteArray) : impl_PicOk.f w h d = some (decide (PicR w h d)) := by
 unfold impl_PicOk.f PicR
 simp only [within_eq, Option.bind_some]
 by_cases c : 1 ≤ w ∧ w ≤ 256
 ·by_cases c2 : 1 ≤ h ∧ h ≤ 256
  ·have hm := small_mul (w := w) (h := h) (a := 256) (b := 256) (by omega) c.2 (by omega) c2.2
   simp only [c, c2, decide_true, if_true, true_and, and_self]
   rw [wrap_id (by omega) (by omega)]
   rfl
  ·simp only [c, c2, decide_true, decide_false, if_true, true_and, false_and, and_self]
   rfl
 ·simp only [c, decide_false, false_and]
  rfl
theorem down {P : Nat → Prop} (n : Nat) (h0 : P n) (hs : ∀ i, i < n → P (i + 1) → P i) : ∀ i, i ≤ n → P i := by
 intro i hi
 obtain ⟨d, hd⟩ : ∃ d, d = n - i := ⟨_, rfl⟩
 induction d generalizing i with
 | zero =>
  have : i = n := by omega
  subst this; exact h0
 | succ d ih => exact hs i (by omega) (ih (i + 1) (by omega) (by omega))
theorem rd_nat (l : List Int) (i : Nat) (h : i < l.length) : rd l (i : Int) = l[i] := by
 unfold rd
 rw [List.getD_eq_getElem?_getD, Int.toNat_natCast, List.getElem?_eq_getElem h]; rfl
theorem cast1 (i : Nat) : ((i : Nat) : Int) + 1 = ((i + 1 : Nat) : Int) := rfl
theorem mix_set {α : Type} (l z : List α) (i : Nat) (hi : i < l.length) (hz : i < z.length) : (l.take i ++ z.drop i).set i l[i] = l.take (i + 1) ++ z.drop (i + 1) := by
 rw [List.set_append_right _ _ (by simp; omega)]
 rw [show i - (l.take i).length = 0 by simp; omega]
 rw [List.drop_eq_getElem_cons hz, List.set_cons_zero, List.take_succ_eq_append_getElem hi, List.append_assoc]; rfl
theorem mix_length {α : Type} (l z : List α) (i : Nat) (h : l.length = z.length) (hi : i ≤ l.length) : (l.take i ++ z.drop i).length = l.length := by
 simp; omega
theorem mix_end {α : Type} (l z : List α) (h : l.length = z.length) : l.take l.length ++ z.drop l.length = l := by
 rw [List.take_length, h, List.drop_length, List.append_nil]
theorem mix_zero {α : Type} (l z : List α) : l.take 0 ++ z.drop 0 = z := by simp
def rowV (w : Int) (d : ByteArray) (x cw y : Int) : List Int := bytesOf (d.extract (y * w + x).toNat (y * w + x + cw).toNat)
/-- The dots of n rows of a cut from row y on, behind out. -/
def cutF (w : Int) (d : ByteArray) (x cw : Int) : Nat → Int → List Int → List Int
 | 0, _, out => out
 | n + 1, y, out => cutF w d x cw n (y + 1) (out ++ rowV w d x cw y)
/-- The rectangle lies inside. -/
def HoldR (w h x y cw ch : Int) : Prop := (1 ≤ cw ∧ cw ≤ w) ∧ (1 ≤ ch ∧ ch ≤ h) ∧ (0 ≤ x ∧ x ≤ w - cw) ∧ (0 ≤ y ∧ y ≤ h - ch)
instance (w h x y cw ch : Int) : Decidable (HoldR w h x y cw ch) := by unfold HoldR; infer_instance
theorem cut_facts (w h : Int) (d : ByteArray) (x y0 cw ch : Int) (hp : PicR w h d) (hh : HoldR w h x y0 cw ch) (y : Int) (h0 : y0 ≤ y) (h1 : y + 1 ≤ y0 + ch) :
  0 ≤ y * w + x ∧ y * w + x + cw ≤ (d.size : Int) ∧ 0 ≤ y * w ∧ y * w ≤ 65536 ∧ (d.size : Int) ≤ 65536 := by
 unfold HoldR at hh
 unfold PicR at hp
 have a := small_mul (w := y) (h := w) (a := 256) (b := 256) (by omega) (by omega) (by omega) (by omega)
 have b := small_mul (w := w) (h := h) (a := 256) (b := 256) (by omega) (by omega) (by omega) (by omega)
 have c : (y + 1) * w ≤ h * w := Int.mul_le_mul_of_nonneg_right (by omega) (by omega)
 have e : (y + 1) * w = y * w + w := by rw [Int.add_mul, Int.one_mul]
 have f : h * w = w * h := Int.mul_comm _ _
 rw [e, f] at c
 omega
def cutV (w h : Int) (d : ByteArray) (x y cw ch : Int) : Int × Int × ByteArray × Bool := if PicR w h d ∧ HoldR w h x y cw ch then (cw, ch, strOfNums (cutF w d x cw ch.toNat y []), true) else (0, 0, (⟨#[]⟩ : ByteArray), false)
theorem holds_eq (w h : Int) (d : ByteArray) (x y cw ch : Int) (hp : PicR w h d) : impl_Pic_holds.f w h d x y cw ch = some (decide (HoldR w h x y cw ch)) := by
 unfold impl_Pic_holds.f HoldR
 unfold PicR at hp
 simp only [within_eq, Option.bind_some]
 by_cases c1 : 1 ≤ cw ∧ cw ≤ w
 ·by_cases c2 : 1 ≤ ch ∧ ch ≤ h
  ·rw [wrap_id (x := w - cw) (by omega) (by omega), wrap_id (x := h - ch) (by omega) (by omega)]
   by_cases c3 : 0 ≤ x ∧ x ≤ w - cw
   ·simp only [c1, c2, c3, decide_true, if_true, true_and, and_self]
   ·simp only [c1, c2, c3, decide_true, decide_false, if_true, true_and, false_and, and_self, Bool.false_eq_true, if_false]
  ·simp only [c1, c2, decide_true, decide_false, if_true, true_and, false_and, and_self, Bool.false_eq_true, if_false]
 ·simp only [c1, decide_false, false_and, Bool.false_eq_true, if_false]
theorem cut_loop (w h : Int) (d : ByteArray) (x y0 cw ch : Int) (hp : PicR w h d) (hh : HoldR w h x y0 cw ch) (n : Nat) : ∀ (y : Int) (out : List Int), y + (n : Int) = y0 + ch → y0 ≤ y → out.length + 70000 * n ≤ 30000000 →
  Ev (fun k => impl_CutOf.l0 k out y w h d x y0 cw ch) (cw, ch, strOfNums (cutF w d x cw n y out), true) := by
 have q := hh
 unfold HoldR at q
 have q2 := hp
 unfold PicR at q2
 induction n with
 | zero =>
  intro y out e hy hl
  refine Ev.step (f := fun _ => some (cw, ch, strOfNums out, true)) (fun k => ?_) (Ev.now _)
  simp only [impl_CutOf.l0]
  rw [wrap_id (x := y0 + ch) (by omega) (by omega), if_neg (by omega)]
 | succ n ih =>
  intro y out e hy hl
  obtain ⟨f0, f1, f2, f3, f4⟩ := cut_facts w h d x y0 cw ch hp hh y hy (by omega)
  have hr : (rowV w d x cw y).length ≤ 70000 := by
   unfold rowV
   rw [bytesOf_length, ByteArray.size_extract]
   omega
  have h' := ih (y + 1) (out ++ rowV w d x cw y) (by omega) (by omega) (by rw [List.length_append]; omega)
  have g1 : y < y0 + ch := by omega
  have g2 : y * w + x ≤ y * w + x + cw := by omega
  have g3 : out.length + (d.extract (y * w + x).toNat (y * w + x + cw).toNat).size < 140737488355328 := by
   rw [ByteArray.size_extract]; omega
  have w1 : wrap64 (y0 + ch) = y0 + ch := wrap_id (by omega) (by omega)
  have w2 : wrap64 (y * w) = y * w := by clear w1; exact wrap_id (by omega) (by omega)
  have w3 : wrap64 (y * w + x) = y * w + x := by clear w1 w2; exact wrap_id (by omega) (by omega)
  have w4 : wrap64 (y * w + x + cw) = y * w + x + cw := by clear w1 w2 w3; exact wrap_id (by omega) (by omega)
  have w5 : wrap64 (y + 1) = y + 1 := by clear w1 w2 w3 w4; exact wrap_id (by omega) (by omega)
  refine Ev.step (fun k => ?_) h'
  simp only [impl_CutOf.l0]
  rw [w1, if_pos g1, w2, w3, w4, if_pos f0, if_pos g2, if_pos f1, if_pos g3, w5]
  rfl
theorem cutof_ev (w h : Int) (d : ByteArray) (x y cw ch : Int) : Ev (fun k => impl_CutOf.f k w h d x y cw ch) (cutV w h d x y cw ch) := by
 unfold impl_CutOf.f cutV
 have hbad : Ev (fun k => impl_CutOf.j0 k true w h d x y cw ch) (0, 0, (⟨#[]⟩ : ByteArray), false) := Ev.step (f := fun _ => some (0, 0, (⟨#[]⟩ : ByteArray), false)) (fun k => by simp only [impl_CutOf.j0]; rfl) (Ev.now _)
 rw [ipic_some]
 simp only [Option.bind_some]
 by_cases hp : PicR w h d
 ·rw [holds_eq w h d x y cw ch hp]
  simp only [hp, decide_true, if_true, true_and, Option.bind_some]
  by_cases hh : HoldR w h x y cw ch
  ·rw [if_pos hh]
   simp only [hh, decide_true, Bool.not_true]
   have q := hh
   unfold HoldR at q
   have q2 := hp
   unfold PicR at q2
   have b := small_mul (w := cw) (h := ch) (a := 256) (b := 256) (by omega) (by omega) (by omega) (by omega)
   have hl := cut_loop w h d x y cw ch hp hh ch.toNat y [] (by omega) (by omega) (by simp; omega)
   have w1 : wrap64 (cw * ch) = cw * ch := wrap_id (by omega) (by omega)
   have g1 : (cw * ch).toNat ≤ 281474976710656 := by clear w1 hl; omega
   refine Ev.step (fun k => ?_) hl
   simp only [impl_CutOf.j0, Bool.false_eq_true, if_false]
   rw [w1, if_pos b.1, if_pos g1]
  ·rw [if_neg hh]
   simp only [hh, decide_false, Bool.not_false]
   exact hbad
 ·simp only [hp, decide_false, false_and, if_false, Bool.false_eq_true]
  exact hbad
theorem bt_extract (e : ByteArray) (a b j : Nat) (h : a + j < b) (hb : b ≤ e.size) : (bytesOf (e.extract a b))[j]'(by rw [bytesOf_length, ByteArray.size_extract]; omega) = bt e ((a + j : Nat) : Int) := by
 rw [← rd_bytesOf, rd_nat (bytesOf e) (a + j) (by rw [bytesOf_length]; omega)]
 simp [bytesOf]
/-- Row y of a picture. -/
def prow (e : ByteArray) (cw y : Int) : List Int := bytesOf (e.extract (y * cw).toNat ((y + 1) * cw).toNat)
theorem prow_facts {cw ch : Int} {e : ByteArray} (hp : PicR cw ch e) (y : Int) (h0 : 0 ≤ y) (h1 : y + 1 ≤ ch) :
  0 ≤ y * cw ∧ (y + 1) * cw = y * cw + cw ∧ y * cw + cw ≤ (e.size : Int) ∧ (e.size : Int) ≤ 65536 ∧ (prow e cw y).length = cw.toNat := by
 unfold PicR at hp
 have a := small_mul (w := y) (h := cw) (a := 256) (b := 256) (by omega) (by omega) (by omega) (by omega)
 have b := small_mul (w := cw) (h := ch) (a := 256) (b := 256) (by omega) (by omega) (by omega) (by omega)
 have c : (y + 1) * cw ≤ ch * cw := Int.mul_le_mul_of_nonneg_right (by omega) (by omega)
 have q : (y + 1) * cw = y * cw + cw := by rw [Int.add_mul, Int.one_mul]
 have f : ch * cw = cw * ch := Int.mul_comm _ _
 refine ⟨a.1, q, by rw [q, f] at c; omega, by omega, ?_⟩
 unfold prow
 rw [bytesOf_length, ByteArray.size_extract]
 rw [q, f] at c
 rw [q]
 omega
theorem getElem_rep {n i : Nat} {v : Int} (h : i < (List.replicate n v).length) : (List.replicate n v)[i] = v := List.getElem_replicate h
theorem bytesOf_strOfNums {l : List Int} (h : ∀ x ∈ l, 0 ≤ x ∧ x ≤ 255) : bytesOf (strOfNums l) = l := by
 unfold bytesOf
 rw [strOfNums_data, List.map_map]
 conv => rhs; rw [← List.map_id l]
 apply List.map_congr_left
 intro x hx
 have := h x hx
 simp
 omega
theorem bt_nums (l : List Int) (hb : ∀ y ∈ l, 0 ≤ y ∧ y ≤ 255) (k : Int) : bt (strOfNums l) k = rd l k := by rw [← rd_bytesOf, bytesOf_strOfNums hb]
theorem bytes_cut (e : ByteArray) (a b : Nat) : bytesOf (e.extract a b) = ((bytesOf e).take b).drop a := by
 apply List.ext_getElem?
 intro i
 simp only [bytesOf, ByteArray.data_extract, Array.toList_extract, List.extract_eq_take_drop, List.map_take, List.map_drop, List.getElem?_drop, List.getElem?_take]
 by_cases c : a + i < b
 ·rw [if_pos c, if_pos (by omega)]
 ·rw [if_neg c, if_neg (by omega)]
theorem cutF_app (w : Int) (d : ByteArray) (x cw : Int) : ∀ (n : Nat) (y : Int) (out : List Int), cutF w d x cw n y out = out ++ cutF w d x cw n y []
 | 0, _, out => by simp [cutF]
 | n + 1, y, out => by rw [cutF, cutF_app w d x cw n (y + 1) (out ++ rowV w d x cw y), cutF, cutF_app w d x cw n (y + 1) ([] ++ rowV w d x cw y), List.append_assoc, List.nil_append]
theorem cutF_len (w : Int) (d : ByteArray) (x cw : Int) (c : Nat) : ∀ (n : Nat) (y : Int), (∀ y', y ≤ y' → y' < y + (n : Int) → (rowV w d x cw y').length = c) → (cutF w d x cw n y []).length = n * c
 | 0, _, _ => by simp [cutF]
 | n + 1, y, h => by
  rw [cutF, cutF_app, List.length_append, List.nil_append, h y (by omega) (by omega), cutF_len w d x cw c n (y + 1) (fun y' h1 h2 => h y' (by omega) (by omega)), Nat.add_mul, Nat.one_mul, Nat.add_comm]
theorem cutF_bytes (w : Int) (d : ByteArray) (x cw : Int) : ∀ (n : Nat) (y : Int), ∀ z ∈ cutF w d x cw n y [], 0 ≤ z ∧ z ≤ 255
 | 0, _, z, h => by simp [cutF] at h
 | n + 1, y, z, h => by
  rw [cutF, cutF_app, List.nil_append] at h
  rcases List.mem_append.1 h with h | h
  ·unfold rowV bytesOf at h
   obtain ⟨u, _, rfl⟩ := List.mem_map.1 h
   have := u.toNat_lt
   omega
  ·exact cutF_bytes w d x cw n (y + 1) z h
theorem cut_row (w : Int) (d : ByteArray) (x cw : Int) (c : Nat) : ∀ (n : Nat) (y : Int) (j : Nat), (∀ y', y ≤ y' → y' < y + (n : Int) → (rowV w d x cw y').length = c) → j < n → ((cutF w d x cw n y []).take ((j + 1) * c)).drop (j * c) = rowV w d x cw (y + (j : Int))
 | 0, _, _, _, hj => by omega
 | n + 1, y, 0, h, _ => by
  rw [cutF, cutF_app, List.nil_append, Nat.zero_mul, List.drop_zero, Nat.zero_add, Nat.one_mul, List.take_left' (h y (by omega) (by omega))]
  simp
 | n + 1, y, j + 1, h, hj => by
  have hl := h y (by omega) (by omega)
  have ih := cut_row w d x cw c n (y + 1) j (fun y' h1 h2 => h y' (by omega) (by omega)) (by omega)
  have e1 : (j + 1 + 1) * c = c + (j + 1) * c := by rw [Nat.add_mul (j + 1), Nat.one_mul, Nat.add_comm]
  have e2 : (j + 1) * c = c + j * c := by rw [Nat.add_mul, Nat.one_mul, Nat.add_comm]
  rw [cutF, cutF_app, List.nil_append, List.take_append, List.take_of_length_le (by rw [hl, e1]; omega), List.drop_append, List.drop_eq_nil_of_le (by rw [hl, e2]; omega), List.nil_append, hl, e1, Nat.add_sub_cancel_left]
  rw [show (j + 1) * c - c = j * c by rw [e2]; omega, ih]
  congr 1
  omega
theorem far_rows {w Y Z : Int} (hw : 0 ≤ w) (h : Y < Z) : Y * w + w ≤ Z * w := by
 have := Int.mul_le_mul_of_nonneg_right (show Y + 1 ≤ Z by omega) hw
 rw [Int.add_mul, Int.one_mul] at this
 exact this
theorem row_rd {w h : Int} {b : ByteArray} {x y0 cw ch : Int} (hp : PicR w h b) (hh : HoldR w h x y0 cw ch) (y : Int) (h0 : y0 ≤ y) (h1 : y + 1 ≤ y0 + ch) : (rowV w b x cw y).length = cw.toNat ∧ ∀ i : Int, 0 ≤ i → i < cw → rd (rowV w b x cw y) i = bt b (y * w + x + i) := by
 obtain ⟨f0, f1, f2, f3, f4⟩ := cut_facts w h b x y0 cw ch hp hh y h0 h1
 have q := hh
 unfold HoldR at q
 have hl : (rowV w b x cw y).length = cw.toNat := by
  unfold rowV
  rw [bytesOf_length, ByteArray.size_extract]
  omega
 refine ⟨hl, fun i i0 i1 => ?_⟩
 obtain ⟨j, rfl⟩ := Int.eq_ofNat_of_zero_le i0
 rw [rd_nat _ j (by omega)]
 have := bt_extract b (y * w + x).toNat (y * w + x + cw).toNat j (by omega) (by omega)
 rw [show (((y * w + x).toNat + j : Nat) : Int) = y * w + x + (j : Int) by omega] at this
 exact this
/-- Row j of what was cut is row y0 + j there. -/
theorem prow_cut {w h : Int} {b : ByteArray} {x y0 cw ch : Int} (hp : PicR w h b) (hh : HoldR w h x y0 cw ch) (y : Int) (hy : 0 ≤ y) (hy1 : y + 1 ≤ ch) : prow (strOfNums (cutF w b x cw ch.toNat y0 [])) cw y = rowV w b x cw (y0 + y) := by
 have q := hh
 unfold HoldR at q
 unfold prow
 rw [bytes_cut, bytesOf_strOfNums (cutF_bytes w b x cw ch.toNat y0)]
 have := cut_row w b x cw cw.toNat ch.toNat y0 y.toNat (fun y' g0 g1 => (row_rd hp hh y' g0 (by omega)).1) (by omega)
 rw [show y0 + (y.toNat : Int) = y0 + y by omega] at this
 rw [← this, Int.toNat_mul (by omega) (by omega), Int.toNat_mul (by omega) (by omega), show (y + 1).toNat = y.toNat + 1 by omega]
theorem cut_pic {w h : Int} {b : ByteArray} {x y0 cw ch : Int} (hp : PicR w h b) (hh : HoldR w h x y0 cw ch) : PicR cw ch (strOfNums (cutF w b x cw ch.toNat y0 [])) := by
 have q := hh
 unfold HoldR at q
 have q2 := hp
 unfold PicR at q2
 refine ⟨by omega, by omega, ?_⟩
 rw [strOfNums_size, cutF_len w b x cw cw.toNat ch.toNat y0 (fun y' g0 g1 => (row_rd hp hh y' g0 (by omega)).1)]
 rw [Int.natCast_mul, Int.toNat_of_nonneg (by omega), Int.toNat_of_nonneg (by omega), Int.mul_comm]
theorem place_of {w h : Int} (hw : 1 ≤ w) {k : Int} (h0 : 0 ≤ k) (h1 : k < w * h) : ∃ X Y, k = Y * w + X ∧ 0 ≤ X ∧ X < w ∧ 0 ≤ Y ∧ Y < h := by
 refine ⟨k % w, k / w, ?_, Int.emod_nonneg _ (by omega), Int.emod_lt_of_pos _ (by omega), Int.ediv_nonneg h0 (by omega), ?_⟩
 ·have := Int.mul_ediv_add_emod k w
  rw [Int.mul_comm] at this
  omega
 ·rw [Int.mul_comm] at h1
  exact Int.ediv_lt_of_lt_mul (by omega) h1
theorem mx0 {n hi : Int} (h : 0 ≤ hi) : 0 ≤ mx 0 (mn n hi) ∧ mx 0 (mn n hi) ≤ hi := by unfold mx mn; repeat' split <;> omega
def dotv (w h : Int) (d : ByteArray) (x y : Int) : Int := bt d (mx 0 (mn y (h - 1)) * w + mx 0 (mn x (w - 1)))
theorem spot {w h X Y : Int} (hw : 1 ≤ w) (hX : 0 ≤ X ∧ X ≤ w - 1) (hY : 0 ≤ Y ∧ Y ≤ h - 1) : 0 ≤ Y * w ∧ 0 ≤ Y * w + X ∧ Y * w + X < w * h := by
 have h1 : 0 ≤ Y * w := Int.mul_nonneg hY.1 (by omega)
 have h2 : Y * w ≤ (h - 1) * w := Int.mul_le_mul_of_nonneg_right hY.2 (by omega)
 have h3 : (h - 1) * w = w * h - w := by rw [Int.sub_mul, Int.one_mul, Int.mul_comm]
 omega
theorem dotv_range (w h : Int) (d : ByteArray) (x y : Int) : 0 ≤ dotv w h d x y ∧ dotv w h d x y ≤ 255 := bt_range _ _
theorem dot_eq (w h : Int) (d : ByteArray) (x y : Int) (hp : PicR w h d) : impl_Pic_dot.f w h d x y = some (dotv w h d x y) := by
 obtain ⟨hw, hh, hd⟩ := hp
 unfold impl_Pic_dot.f impl_Brought.f
 simp only [Option.bind_some]
 rw [wrap_id (x := h - 1) (by omega) (by omega), wrap_id (x := w - 1) (by omega) (by omega)]
 have hX := mx0 (n := x) (hi := w - 1) (by omega)
 have hY := mx0 (n := y) (hi := h - 1) (by omega)
 have hs := spot hw.1 hX hY
 have hm := small_mul (w := w) (h := h) (a := 256) (b := 256) (by omega) hw.2 (by omega) hh.2
 rw [wrap_id (x := mx 0 (mn y (h - 1)) * w) (by omega) (by omega), wrap_id (x := mx 0 (mn y (h - 1)) * w + mx 0 (mn x (w - 1))) (by omega) (by omega)]
 have hb := dotv_range w h d x y
 rw [if_pos hs.2.1, if_pos (by omega)]
 unfold dotv at hb ⊢
 rw [wrap_id (by omega) (by omega)]
/-- The 64 dots of a block. -/
def blockv (w h : Int) (d : ByteArray) (x y : Int) : List Int := (List.range 64).map fun i => dotv w h d (x + ((i % 8 : Nat) : Int)) (y + ((i / 8 : Nat) : Int))
theorem blockv_len (w h : Int) (d : ByteArray) (x y : Int) : (blockv w h d x y).length = 64 := by simp [blockv]
theorem blockv_get (w h : Int) (d : ByteArray) (x y : Int) (i : Nat) (hi : i < (blockv w h d x y).length) : (blockv w h d x y)[i] = dotv w h d (x + ((i % 8 : Nat) : Int)) (y + ((i / 8 : Nat) : Int)) := by simp [blockv]
theorem blockv_in (w h : Int) (d : ByteArray) (x y : Int) : ∀ v ∈ blockv w h d x y, 0 ≤ v ∧ v ≤ 255 := by
 intro v hv
 obtain ⟨i, hi, rfl⟩ := List.mem_iff_getElem.1 hv
 rw [blockv_get]; exact dotv_range ..
theorem block_inner (w h : Int) (d : ByteArray) (x y : Int) (hp : PicR w h d) (hx : -1000000 ≤ x ∧ x ≤ 1000000) (hy : -1000000 ≤ y ∧ y ≤ 1000000) (r : Nat) (hr : r < 8) (R : List Int)
  (hh : Ev (fun k => impl_Pic_block.l0 k x y ((blockv w h d x y).take (8 * (r + 1))) ((r + 1 : Nat) : Int) w h d) R) :
  ∀ c : Nat, c ≤ 8 → Ev (fun k => impl_Pic_block.l1 k x y ((blockv w h d x y).take (8 * r + c)) (r : Int) (r : Int) (c : Int) w h d) R := by
 have hl := blockv_len w h d x y
 refine down 8 ?_ ?_
 ·refine Ev.step (fun k => ?_) hh
  simp only [impl_Pic_block.l1]
  rw [if_neg (by omega), wrap_id (by omega) (by omega), cast1]; rfl
 ·intro c hc h'
  refine Ev.step (fun k => ?_) h'
  have e := blockv_get w h d x y (8 * r + c) (by omega)
  have m1 : (8 * r + c) % 8 = c := by omega
  have m2 : (8 * r + c) / 8 = r := by omega
  rw [m1, m2] at e
  simp only [impl_Pic_block.l1]
  rw [if_pos (by omega), wrap_id (x := x + (c : Int)) (by omega) (by omega), wrap_id (x := y + (r : Int)) (by omega) (by omega), dot_eq w h d _ _ hp, Option.bind_some, if_pos (by simp; omega), ← e, ← List.take_succ_eq_append_getElem (by omega), wrap_id (by omega) (by omega), cast1]; rfl
theorem block_ev (w h : Int) (d : ByteArray) (x y : Int) (hp : PicR w h d) (hx : -1000000 ≤ x ∧ x ≤ 1000000) (hy : -1000000 ≤ y ∧ y ≤ 1000000) : Ev (fun k => impl_Pic_block.f k w h d x y) (blockv w h d x y) := by
 have hl := blockv_len w h d x y
 have H : ∀ r : Nat, r ≤ 8 → Ev (fun k => impl_Pic_block.l0 k x y ((blockv w h d x y).take (8 * r)) (r : Int) w h d) (blockv w h d x y) := by
  refine down 8 ?_ ?_
  ·refine Ev.step (f := fun _ => some (blockv w h d x y)) (fun k => ?_) (Ev.now _)
   simp only [impl_Pic_block.l0]
   rw [if_neg (by omega), List.take_of_length_le (by omega)]
  ·intro r hr h'
   refine Ev.step (fun k => ?_) (block_inner w h d x y hp hx hy r hr _ h' 0 (by omega))
   simp only [impl_Pic_block.l0]
   rw [if_pos (by omega)]; rfl
 have h0 := H 0 (by omega)
 unfold impl_Pic_block.f
 refine Ev.congr (fun k => ?_) h0
 rw [if_pos (by decide)]; rfl
/-- What a grey picture's dots are. -/
def greyd (w h : Int) : ByteArray := strOfNums (List.replicate (w * h).toNat 128)
def GOk (w h : Int) : Prop := (1 ≤ w ∧ w ≤ 256) ∧ (1 ≤ h ∧ h ≤ 256)
instance (w h : Int) : Decidable (GOk w h) := by unfold GOk; infer_instance
theorem grey_loop (w h : Int) (n : Nat) (hn : n ≤ 281474976710656) : Ev (fun k => impl_Grey.l0 k w h (List.replicate n 0) (n : Int) 0) (w, h, strOfNums (List.replicate n 128)) := by
 have H : ∀ i, i ≤ n → Ev (fun k => impl_Grey.l0 k w h ((List.replicate n 128).take i ++ (List.replicate n (0 : Int)).drop i) (n : Int) (i : Int)) (w, h, strOfNums (List.replicate n 128)) := by
  refine down n ?_ ?_
  ·refine Ev.step (f := fun _ => some (w, h, strOfNums (List.replicate n 128))) (fun k => ?_) (Ev.now _)
   have := mix_end (List.replicate n (128 : Int)) (List.replicate n (0 : Int)) (by simp)
   rw [List.length_replicate] at this
   simp only [impl_Grey.l0]
   rw [if_neg (by omega), this]
  ·intro i hi hh
   refine Ev.step (fun k => ?_) hh
   have hl : i < (List.replicate n (128 : Int)).length := by simp; exact hi
   have e := mix_set (List.replicate n (128 : Int)) (List.replicate n (0 : Int)) i hl (by simp; exact hi)
   rw [getElem_rep] at e
   simp only [impl_Grey.l0]
   rw [if_pos (by omega), if_pos (by omega), if_pos (by rw [mix_length _ _ _ (by simp) (by omega)]; omega), Int.toNat_natCast, e, wrap_id (by omega) (by omega), cast1]
 have h0 := H 0 (by omega)
 rw [mix_zero] at h0
 exact h0
theorem grey_ev (w h : Int) : Ev (fun k => impl_Grey.f k w h) (if GOk w h then (w, h, greyd w h) else (0, 0, ⟨#[]⟩)) := by
 unfold impl_Grey.f
 simp only [within_eq, Option.bind_some]
 by_cases c1 : 1 ≤ w ∧ w ≤ 256
 ·by_cases c2 : 1 ≤ h ∧ h ≤ 256
  ·rw [if_pos ⟨c1, c2⟩]
   simp only [c1, c2, and_self, decide_true, if_true, Bool.not_true]
   have hm := small_mul (w := w) (h := h) (a := 256) (b := 256) (by omega) c1.2 (by omega) c2.2
   have e := grey_loop w h (w * h).toNat (by omega)
   refine Ev.step (fun k => ?_) e
   simp only [impl_Grey.j0, Bool.false_eq_true, if_false, Option.bind_some]
   rw [wrap_id (x := w * h) (by omega) (by omega), if_pos hm.1, if_pos (by omega), List.length_replicate]
  ·rw [if_neg (fun h => c2 h.2)]
   simp only [c1, c2, and_self, decide_true, decide_false, if_true, Bool.not_false]
   exact Ev.step (f := fun _ => some (0, 0, ⟨#[]⟩)) (fun k => by simp only [impl_Grey.j0]; rfl) (Ev.now _)
 ·rw [if_neg (fun h => c1 h.1)]
  simp only [c1, decide_false, Bool.false_eq_true, if_false]
  exact Ev.step (f := fun _ => some (0, 0, ⟨#[]⟩)) (fun k => by simp only [impl_Grey.j0]; rfl) (Ev.now _)
def condB (q : Int) (l e : Bool) : Bool := decide (0 ≤ q ∧ q ≤ 40) && !(l && e)
theorem cond_val (a : Bool) (q : Int) (l e : Bool) : impl_CondOk.f a q l e = some (condB q l e) := by
 unfold impl_CondOk.f condB
 rw [within_eq, Option.bind_some]
 by_cases c : 0 ≤ q ∧ q ≤ 40
 ·simp only [c, and_self, decide_true, if_true, Bool.true_and]
  cases l <;> cases e <;> rfl
 ·simp only [c, decide_false, Bool.false_eq_true, if_false, Bool.false_and]
/-- The place (X, Y) lies in the square at (x, y). -/
def inQ (x y X Y : Int) : Prop := (x ≤ X ∧ X < x + 8) ∧ y ≤ Y ∧ Y < y + 8
instance (x y X Y : Int) : Decidable (inQ x y X Y) := by unfold inQ; infer_instance
theorem rd_set (l : List Int) (p : Nat) (v k : Int) (h : p < l.length) (hk : 0 ≤ k) : rd (l.set p v) k = if k = (p : Int) then v else rd l k := by
 unfold rd
 rw [List.getD_eq_getElem?_getD, List.getD_eq_getElem?_getD]
 by_cases c : k = (p : Int)
 ·subst c
  rw [if_pos rfl, Int.toNat_natCast, List.getElem?_set_self h]
  rfl
 ·rw [if_neg c, List.getElem?_set_ne (by omega)]
/-- A square's dots, put into a picture one by one. -/
def Put (w h : Int) (old d : List Int) (x y j : Int) (out : List Int) : Prop := out.length = old.length ∧ (∀ z ∈ out, 0 ≤ z ∧ z ≤ 255) ∧ ∀ X Y : Int, 0 ≤ X → X < w → 0 ≤ Y → Y < h → rd out (Y * w + X) = if inQ x y X Y ∧ (Y - y) * 8 + (X - x) < j then rd d ((Y - y) * 8 + (X - x)) else rd old (Y * w + X)
theorem put_loop (w h : Int) (old d : List Int) (D : ByteArray) (x y : Int) (hw : 1 ≤ w ∧ w ≤ 256) (hh : 1 ≤ h ∧ h ≤ 256) (ho : (old.length : Int) = w * h) (hd : d.length = 64) (db : ∀ z ∈ d, 0 ≤ z ∧ z ≤ 255) (hx : 0 ≤ x ∧ x + 8 ≤ w) (hy : 0 ≤ y ∧ y + 8 ≤ h) (t : Nat) :
  ∀ (j : Nat) (out : List Int), j + t = 64 → Put w h old d x y (j : Int) out → ∃ out', Ev (fun k => impl_put.l0 k x y out d 64 (j : Int) w h D) (w, h, strOfNums out') ∧ Put w h old d x y 64 out' := by
 induction t with
 | zero =>
  intro j out hj hP
  refine ⟨out, Ev.step (f := fun _ => some (w, h, strOfNums out)) (fun k => ?_) (Ev.now _), by rw [show (64 : Int) = (j : Int) by omega]; exact hP⟩
  simp only [impl_put.l0]
  rw [if_neg (by omega)]
 | succ t ih =>
  intro j out hj hP
  have hjd : j < d.length := by omega
  have hv := db (d[j]'hjd) (List.getElem_mem hjd)
  have g6 : rd d (j : Int) % 256 = d[j]'hjd := by rw [rd_nat d j hjd]; omega
  have hY : 0 ≤ y + ((j / 8 : Nat) : Int) ∧ y + ((j / 8 : Nat) : Int) < h := by omega
  have hX : 0 ≤ x + ((j % 8 : Nat) : Int) ∧ x + ((j % 8 : Nat) : Int) < w := by omega
  have sp := spot (w := w) (h := h) (X := x + ((j % 8 : Nat) : Int)) (Y := y + ((j / 8 : Nat) : Int)) hw.1 (by omega) (by omega)
  have bd := small_mul (w := w) (h := h) (a := 256) (b := 256) (by omega) hw.2 (by omega) hh.2
  obtain ⟨Y0, eY⟩ : ∃ Y0, Y0 = y + ((j / 8 : Nat) : Int) := ⟨_, rfl⟩
  obtain ⟨X0, eX⟩ : ∃ X0, X0 = x + ((j % 8 : Nat) : Int) := ⟨_, rfl⟩
  rw [← eY, ← eX] at sp
  have lo : out.length = old.length := hP.1
  obtain ⟨out', eo, hP'⟩ := ih (j + 1) (out.set (Y0 * w + X0).toNat (d[j]'hjd)) (by omega) (by
   refine ⟨by rw [List.length_set, lo], fun z hz => ?_, fun X Y a0 a1 b0 b1 => ?_⟩
   ·rcases List.mem_or_eq_of_mem_set hz with hm | rfl
    ·exact hP.2.1 _ hm
    ·exact hv
   ·have hk : 0 ≤ Y * w := Int.mul_nonneg b0 (by omega)
    rw [rd_set _ _ _ _ (by omega) (by omega), Int.toNat_of_nonneg sp.2.1, hP.2.2 X Y a0 a1 b0 b1]
    have lo' : Y < Y0 → Y * w + w ≤ Y0 * w := far_rows (by omega)
    have hi' : Y0 < Y → Y0 * w + w ≤ Y * w := far_rows (by omega)
    by_cases c : X = X0 ∧ Y = Y0
    ·obtain ⟨rfl, rfl⟩ := c
     rw [if_pos rfl, if_pos (show inQ x y X Y ∧ (Y - y) * 8 + (X - x) < ((j + 1 : Nat) : Int) from ⟨⟨by omega, by omega⟩, by omega⟩), show (Y - y) * 8 + (X - x) = (j : Int) by omega, rd_nat d j hjd]
    ·rw [if_neg (by
      intro e
      apply c
      by_cases t1 : Y < Y0
      ·have := lo' t1; omega
      ·by_cases t2 : Y0 < Y
       ·have := hi' t2; omega
       ·have t3 : Y = Y0 := by omega
        subst t3
        exact ⟨by omega, rfl⟩)]
     by_cases c2 : inQ x y X Y ∧ (Y - y) * 8 + (X - x) < (j : Int)
     ·rw [if_pos c2, if_pos ⟨c2.1, by have := c2.2; omega⟩]
     ·rw [if_neg c2, if_neg (by
       rintro ⟨g1, g2⟩
       by_cases e : (Y - y) * 8 + (X - x) = (j : Int)
       ·apply c
        have := g1.1
        have := g1.2
        omega
       ·exact c2 ⟨g1, by omega⟩)])
  refine ⟨out', Ev.step (fun k => ?_) eo, hP'⟩
  have w1 : wrap64 (Int.tdiv (j : Int) 8) = ((j / 8 : Nat) : Int) := by rw [Int.tdiv_eq_ediv_of_nonneg (by omega), wrap_id (by omega) (by omega)]; omega
  have w0 : Int.tmod (j : Int) 8 = ((j % 8 : Nat) : Int) := by rw [Int.tmod_eq_emod_of_nonneg (by omega)]; omega
  have w2 : wrap64 (y + ((j / 8 : Nat) : Int)) = Y0 := by clear w1; rw [← eY]; exact wrap_id (by omega) (by omega)
  have w3 : wrap64 (Y0 * w) = Y0 * w := by clear w1 w2; exact wrap_id (by omega) (by omega)
  have w4 : wrap64 (Y0 * w + x) = Y0 * w + x := by clear w1 w2 w3; exact wrap_id (by omega) (by omega)
  have w5 : wrap64 (Y0 * w + x + ((j % 8 : Nat) : Int)) = Y0 * w + X0 := by clear w1 w2 w3 w4; rw [show Y0 * w + x + ((j % 8 : Nat) : Int) = Y0 * w + X0 by omega]; exact wrap_id (by omega) (by omega)
  have w6 : wrap64 ((j : Int) + 1) = ((j + 1 : Nat) : Int) := by clear w1 w2 w3 w4 w5; rw [wrap_id (by omega) (by omega)]; omega
  have g1 : (j : Int) < 64 := by clear w1 w2 w3 w4 w5 w6; omega
  have g2 : (0 : Int) ≤ (j : Int) := by clear w1 w2 w3 w4 w5 w6; omega
  have g3 : (j : Int) < (d.length : Int) := by clear w1 w2 w3 w4 w5 w6; omega
  have g4 : 0 ≤ Y0 * w + X0 := sp.2.1
  have g5 : Y0 * w + X0 < (out.length : Int) := by clear w1 w2 w3 w4 w5 w6; omega
  simp only [impl_put.l0]
  rw [if_pos g1, if_pos g2, if_pos g3, w1, w0, w2, w3, w4, w5, if_pos g4, if_pos g5, g6, w6]
theorem put_ev (w h : Int) (old d : List Int) (x y : Int) (hw : 1 ≤ w ∧ w ≤ 256) (hh : 1 ≤ h ∧ h ≤ 256) (ho : (old.length : Int) = w * h) (ob : ∀ z ∈ old, 0 ≤ z ∧ z ≤ 255) (hd : d.length = 64) (db : ∀ z ∈ d, 0 ≤ z ∧ z ≤ 255) (hx : 0 ≤ x ∧ x + 8 ≤ w) (hy : 0 ≤ y ∧ y + 8 ≤ h) :
  ∃ out', Ev (fun k => impl_put.f k w h (strOfNums old) x y d) (w, h, strOfNums out') ∧ Put w h old d x y 64 out' := by
 obtain ⟨out', e, hP⟩ := put_loop w h old d (strOfNums old) x y hw hh ho hd db hx hy 64 0 old (by omega) ⟨rfl, ob, fun X Y _ _ _ _ => by rw [if_neg (by rintro ⟨g1, g2⟩; have := g1.1; have := g1.2; omega)]⟩
 refine ⟨out', ?_, hP⟩
 unfold impl_put.f impl_dots.f
 simp only [Option.bind_some, bytesOf_strOfNums ob]
 rw [show (d.length : Int) = 64 by omega]
 exact e
theorem skip_ev (w h : Int) (now : ByteArray) (sw sh : Int) (sd : ByteArray) (ox oy : Int) (q : Int) (large ex : Bool) (x y : Int) (hn : PicR w h now) (hs : PicR sw sh sd) (hc : condB q large ex = true) (hox : 0 ≤ ox ∧ ox ≤ 256) (hoy : 0 ≤ oy ∧ oy ≤ 256) (hx : 0 ≤ x ∧ x + 8 ≤ w) (hy : 0 ≤ y ∧ y + 8 ≤ h) (mx8 : Int.tmod x 8 = 0) (my8 : Int.tmod y 8 = 0) :
  Ev (fun k => impl_SquareDots.f k w h now sw sh sd ox oy false q large ex x y 0 0 0 0 []) (blockv sw sh sd (ox + x) (oy + y), true) := by
 have hw := hn
 unfold PicR at hw
 have e1 : wrap64 (w - 8) = w - 8 := wrap_id (by omega) (by omega)
 have e2 : wrap64 (h - 8) = h - 8 := by clear e1; exact wrap_id (by omega) (by omega)
 have e3 : wrap64 (ox + x) = ox + x := by clear e1 e2; exact wrap_id (by omega) (by omega)
 have e4 : wrap64 (oy + y) = oy + y := by clear e1 e2 e3; exact wrap_id (by omega) (by omega)
 have g1 : 0 ≤ x ∧ x ≤ w - 8 := by clear e1 e2 e3 e4; omega
 have g2 : 0 ≤ y ∧ y ≤ h - 8 := by clear e1 e2 e3 e4; omega
 have eb := block_ev sw sh sd (ox + x) (oy + y) hs (by clear e1 e2 e3 e4; omega) (by clear e1 e2 e3 e4; omega)
 unfold impl_SquareDots.f
 simp only [ipic_some, hn, hs, decide_true, Option.bind_some, if_true, impl_Pic_isSquare.f, mx8, my8, within_eq, e1, e2, g1, g2, hox, hoy, impl_SquareOk.f, List.length_nil, cond_val, hc, impl_Square_let.f, Bool.false_eq_true, if_false, e3, e4, and_self, beq_self_eq_true, Int.reduceEq]
 exact Ev.bind eb (Ev.now _)
theorem tile_w {w : Int} (hw : w = 8 ∨ w = 16) : ∃ m : Nat, (m = 1 ∨ m = 2) ∧ w = 8 * (m : Int) ∧ wrap64 (Int.tdiv w 8) = (m : Int) := by
 rcases hw with rfl | rfl
 ·exact ⟨1, .inl rfl, by omega, by decide +kernel⟩
 ·exact ⟨2, .inr rfl, by omega, by decide +kernel⟩
theorem z63_at (n : Nat) (i : Nat) : rd_T63 (List.replicate n z63) (i : Int) = z63 := by
 unfold rd_T63
 rw [Int.toNat_natCast, List.getD_eq_getElem?_getD, List.getElem?_replicate]
 split <;> rfl
/-- What stands in the tile behind i squares. -/
def Til (w h : Int) (m : Nat) (tgt : List Int) (i : Int) (out : List Int) : Prop := (out.length : Int) = w * h ∧ (∀ z ∈ out, 0 ≤ z ∧ z ≤ 255) ∧ ∀ X Y : Int, 0 ≤ X → X < w → 0 ≤ Y → Y < h → rd out (Y * w + X) = if Y / 8 * (m : Int) + X / 8 < i then rd tgt (Y * w + X) else 128
theorem blockv_rd (sw sh : Int) (sd : ByteArray) (hs : PicR sw sh sd) (a b i j : Int) (hi : 0 ≤ i ∧ i < 8) (hj : 0 ≤ j ∧ j < 8) (ha : 0 ≤ a ∧ a + i < sw) (hb : 0 ≤ b ∧ b + j < sh) : rd (blockv sw sh sd a b) (j * 8 + i) = bt sd ((b + j) * sw + (a + i)) := by
 have hs' := hs
 unfold PicR at hs'
 obtain ⟨n, en⟩ := Int.eq_ofNat_of_zero_le (show 0 ≤ j * 8 + i by omega)
 have hl := blockv_len sw sh sd a b
 rw [en, rd_nat _ n (by omega), blockv_get]
 have e1 : a + ((n % 8 : Nat) : Int) = a + i := by omega
 have e2 : b + ((n / 8 : Nat) : Int) = b + j := by omega
 rw [e1, e2]
 have q1 : mx 0 (mn (b + j) (sh - 1)) = b + j := by unfold mx mn; repeat' split <;> omega
 have q2 : mx 0 (mn (a + i) (sw - 1)) = a + i := by unfold mx mn; repeat' split <;> omega
 unfold dotv
 rw [q1, q2]
theorem tile_loop (w h : Int) (hw : w = 8 ∨ w = 16) (hh : h = 8 ∨ h = 16) (m : Nat) (hm : (m = 1 ∨ m = 2) ∧ w = 8 * (m : Int) ∧ wrap64 (Int.tdiv w 8) = (m : Int)) (n : Nat) (hn : (n : Int) = (m : Int) * (h / 8)) (sw sh : Int) (sd : ByteArray) (hs : PicR sw sh sd) (ox oy L T q : Int) (large ex : Bool) (hc : condB q large ex = true)
  (hox : 0 ≤ ox ∧ ox ≤ 256 ∧ ox + w ≤ sw) (hoy : 0 ≤ oy ∧ oy ≤ 256 ∧ oy + h ≤ sh) (tgt : List Int) (hT : ∀ X Y : Int, 0 ≤ X → X < w → 0 ≤ Y → Y < h → bt sd ((oy + Y) * sw + (ox + X)) = rd tgt (Y * w + X)) (t : Nat) :
  ∀ (i : Nat) (out : List Int), i + t = n → Til w h m tgt (i : Int) out → ∃ out', Ev (fun k => impl_TileBack.l0 k ox oy (List.replicate n z63) (n : Int) (i : Int) sw sh sd L T w h false q large ex w h (strOfNums out)) (w, h, strOfNums out', true) ∧ Til w h m tgt (n : Int) out' := by
 obtain ⟨hm1, hm2, hm3⟩ := hm
 have hn4 : n ≤ 4 := by rcases hm1 with rfl | rfl <;> rcases hh with rfl | rfl <;> omega
 induction t with
 | zero =>
  intro i out hi hP
  refine ⟨out, Ev.step (f := fun _ => some (w, h, strOfNums out, true)) (fun k => ?_) (Ev.now _), by rw [show n = i by omega]; exact hP⟩
  simp only [impl_TileBack.l0]
  rw [if_neg (by omega)]
 | succ t ih =>
  intro i out hi hP
  obtain ⟨x, ex_⟩ : ∃ x : Int, x = ((i % m : Nat) : Int) * 8 := ⟨_, rfl⟩
  obtain ⟨y, ey⟩ : ∃ y : Int, y = ((i / m : Nat) : Int) * 8 := ⟨_, rfl⟩
  have hxy : (0 ≤ x ∧ x + 8 ≤ w) ∧ (0 ≤ y ∧ y + 8 ≤ h) := by rcases hm1 with rfl | rfl <;> rcases hh with rfl | rfl <;> omega
  have hpn : PicR w h (strOfNums out) := ⟨by omega, by omega, by rw [strOfNums_size]; exact hP.1⟩
  have es := skip_ev w h (strOfNums out) sw sh sd ox oy q large ex x y hpn hs hc ⟨hox.1, hox.2.1⟩ ⟨hoy.1, hoy.2.1⟩ hxy.1 hxy.2 (by rw [Int.tmod_eq_emod_of_nonneg (by omega)]; omega) (by rw [Int.tmod_eq_emod_of_nonneg (by omega)]; omega)
  have hbl := blockv_len sw sh sd (ox + x) (oy + y)
  obtain ⟨out1, ep, hP1⟩ := put_ev w h out (blockv sw sh sd (ox + x) (oy + y)) x y (by omega) (by omega) hP.1 hP.2.1 hbl (blockv_in _ _ _ _ _) hxy.1 hxy.2
  obtain ⟨out', eo, hP'⟩ := ih (i + 1) out1 (by omega) (by
   refine ⟨by rw [hP1.1]; exact hP.1, hP1.2.1, fun X Y a0 a1 b0 b1 => ?_⟩
   rw [hP1.2.2 X Y a0 a1 b0 b1, hP.2.2 X Y a0 a1 b0 b1]
   have hq : inQ x y X Y ↔ Y / 8 * (m : Int) + X / 8 = (i : Int) := by
    unfold inQ
    rcases hm1 with rfl | rfl
    ·constructor
     ·rintro ⟨g1, g2⟩; omega
     ·intro g; omega
    ·constructor
     ·rintro ⟨g1, g2⟩; omega
     ·intro g; omega
   by_cases c : inQ x y X Y
   ·have c' := hq.1 c
    rw [if_pos ⟨c, by have := c.1; have := c.2; omega⟩, if_pos (by omega)]
    have := blockv_rd sw sh sd hs (ox + x) (oy + y) (X - x) (Y - y) (by have := c.1; omega) (by have := c.2; omega) (by omega) (by omega)
    rw [this, show oy + y + (Y - y) = oy + Y by omega, show ox + x + (X - x) = ox + X by omega]
    exact hT X Y a0 a1 b0 b1
   ·rw [if_neg (fun g => c g.1)]
    have c' : ¬ Y / 8 * (m : Int) + X / 8 = (i : Int) := fun g => c (hq.2 g)
    by_cases c2 : Y / 8 * (m : Int) + X / 8 < (i : Int)
    ·rw [if_pos c2, if_pos (by omega)]
    ·rw [if_neg c2, if_neg (by omega)])
  refine ⟨out', ?_, hP'⟩
  have n0 : ¬ (m : Int) = 0 := by omega
  have w1 : wrap64 ((Int.tmod (i : Int) (m : Int)) * 8) = x := by
   rw [Int.tmod_eq_emod_of_nonneg (by omega), show (i : Int) % (m : Int) = ((i % m : Nat) : Int) from by omega, ← ex_]
   exact wrap_id (by omega) (by omega)
  have w2 : wrap64 ((wrap64 (Int.tdiv (i : Int) (m : Int))) * 8) = y := by
   clear w1
   rw [Int.tdiv_eq_ediv_of_nonneg (by omega), show (i : Int) / (m : Int) = ((i / m : Nat) : Int) from by omega, wrap_id (x := ((i / m : Nat) : Int)) (by omega) (by omega), ← ey]
   exact wrap_id (by omega) (by omega)
  have w3 : wrap64 ((i : Int) + 1) = ((i + 1 : Nat) : Int) := by clear w1 w2; rw [wrap_id (by omega) (by omega)]; omega
  refine Ev.step (fun k => by simp only [impl_TileBack.l0, hm3, z63_at]; rw [if_pos (by clear w1 w2 w3; omega), if_pos (by clear w1 w2 w3; omega), if_pos (by clear w1 w2 w3; rw [List.length_replicate]; omega), if_neg n0, w1, w2, w3]; rfl) (Ev.bind es ?_)
  simp only [if_true]
  exact Ev.bind ep eo
theorem til_end {w h : Int} {m : Nat} (hm : (m = 1 ∨ m = 2) ∧ w = 8 * (m : Int)) (hh : h = 8 ∨ h = 16) {n : Nat} (hn : (n : Int) = (m : Int) * (h / 8)) {tgt out : List Int} (ht : (tgt.length : Int) = w * h) (hP : Til w h m tgt (n : Int) out) : out = tgt := by
 have hl := hP.1
 apply List.ext_getElem (by omega)
 intro i g1 g2
 obtain ⟨X, Y, ek, a0, a1, b0, b1⟩ := place_of (w := w) (h := h) (k := (i : Int)) (by omega) (by omega) (by omega)
 have := hP.2.2 X Y a0 a1 b0 b1
 rw [← ek, rd_nat _ i g1, rd_nat _ i g2, if_pos (by
  obtain ⟨hm1, hm2⟩ := hm
  rcases hm1 with rfl | rfl <;> rcases hh with rfl | rfl <;> omega)] at this
 exact this
theorem tile_flat (n : Nat) : ∀ i : Nat, i < n → rd (List.replicate n (128 : Int)) (i : Int) = 128 := by
 intro i hi
 rw [rd_nat _ i (by simp; exact hi)]
 simp
theorem cut_rd {W H : Int} {rf : ByteArray} {L T w h : Int} (hr : PicR W H rf) (hh : HoldR W H L T w h) (X Y : Int) (a0 : 0 ≤ X) (a1 : X < w) (b0 : 0 ≤ Y) (b1 : Y < h) : bt rf ((T + Y) * W + (L + X)) = rd (cutF W rf L w h.toNat T []) (Y * w + X) := by
 have q := hh
 unfold HoldR at q
 have hc := cut_pic hr hh
 have e1 := prow_cut hr hh Y b0 (by omega)
 obtain ⟨rl, rr⟩ := row_rd hr hh (T + Y) (by omega) (by omega)
 obtain ⟨p0, p1, p2, p3, p4⟩ := prow_facts hc Y b0 (by omega)
 have e2 := rr X a0 a1
 rw [← e1] at e2
 obtain ⟨j, rfl⟩ := Int.eq_ofNat_of_zero_le a0
 rw [rd_nat _ j (by omega)] at e2
 have e3 := bt_extract (strOfNums (cutF W rf L w h.toNat T [])) (Y * w).toNat ((Y + 1) * w).toNat j (by omega) (by omega)
 rw [show (((Y * w).toNat + j : Nat) : Int) = Y * w + (j : Int) by omega, bt_nums _ (cutF_bytes W rf L w h.toNat T)] at e3
 rw [show (T + Y) * W + (L + (j : Int)) = (T + Y) * W + L + (j : Int) by omega, ← e2]
 exact e3
theorem tileback_ev (W H : Int) (rf : ByteArray) (hr : PicR W H rf) (L T w h : Int) (hw : w = 8 ∨ w = 16) (hh : h = 8 ∨ h = 16) (hH : HoldR W H L T w h) (q : Int) (large ex : Bool) (hc : condB q large ex = true) (n : Nat) (hn : wrap64 ((wrap64 (Int.tdiv w 8)) * (wrap64 (Int.tdiv h 8))) = (n : Int)) (conf : Bool) :
  Ev (fun k => impl_TileBack.f k W H rf L T w h false q large ex conf (List.replicate n z63)) (w, h, strOfNums (cutF W rf L w h.toNat T []), true) := by
 have hr' := hr
 unfold PicR at hr'
 have hH' := hH
 unfold HoldR at hH'
 obtain ⟨m, hm⟩ := tile_w hw
 obtain ⟨v, hv⟩ := tile_w hh
 have hnm : (n : Int) = (m : Int) * (h / 8) := by
  rw [← hn, hm.2.2, hv.2.2, hv.2.1]
  have := hm.1
  have := hv.1
  rcases hm.1 with rfl | rfl <;> rcases hv.1 with rfl | rfl <;> decide +kernel
 have tw : impl_isTile.f w = some true := by rcases hw with rfl | rfl <;> decide +kernel
 have th : impl_isTile.f h = some true := by rcases hh with rfl | rfl <;> decide +kernel
 have gL : 0 ≤ L ∧ L ≤ 256 := by omega
 have gT : 0 ≤ T ∧ T ≤ 256 := by omega
 have hcl := cutF_len W rf L w w.toNat h.toNat T (fun y' g0 g1 => (row_rd hr hH y' g0 (by omega)).1)
 have hcp := cut_pic hr hH
 have htl : ((cutF W rf L w h.toNat T []).length : Int) = w * h := by have := hcp.2.2; rw [strOfNums_size] at this; exact this
 have hgrey := grey_ev w h
 rw [if_pos ⟨by omega, by omega⟩] at hgrey
 have hwh : w * h ≤ 256 ∧ 0 ≤ w * h := by rcases hw with rfl | rfl <;> rcases hh with rfl | rfl <;> omega
 have h0 : Til w h m (cutF W rf L w h.toNat T []) ((0 : Nat) : Int) (List.replicate (w * h).toNat 128) := by
  refine ⟨by rw [List.length_replicate]; omega, fun z hz => by have := List.eq_of_mem_replicate hz; omega, fun X Y a0 a1 b0 b1 => ?_⟩
  have sp := spot (w := w) (h := h) (X := X) (Y := Y) (by omega) (by omega) (by omega)
  rw [if_neg (by
   have g1 : 0 ≤ Y / 8 * (m : Int) := Int.mul_nonneg (by omega) (by omega)
   omega), show Y * w + X = (((Y * w + X).toNat : Nat) : Int) by omega, tile_flat _ _ (by omega)]
 have H' : ∀ (sw sh : Int) (sd : ByteArray) (ox oy : Int), PicR sw sh sd → (0 ≤ ox ∧ ox ≤ 256 ∧ ox + w ≤ sw) → (0 ≤ oy ∧ oy ≤ 256 ∧ oy + h ≤ sh) → (∀ X Y : Int, 0 ≤ X → X < w → 0 ≤ Y → Y < h → bt sd ((oy + Y) * sw + (ox + X)) = rd (cutF W rf L w h.toNat T []) (Y * w + X)) →
   Ev (fun k => impl_TileBack.j0 k (List.replicate n z63) ox oy sw sh sd L T w h false q large ex) (w, h, strOfNums (cutF W rf L w h.toNat T []), true) := by
  intro sw sh sd ox oy hs g1 g2 hT
  obtain ⟨out', eo, hP⟩ := tile_loop w h hw hh m hm n hnm sw sh sd hs ox oy L T q large ex hc g1 g2 _ hT n 0 _ (by omega) h0
  rw [til_end ⟨hm.1, hm.2.1⟩ hh hnm htl hP] at eo
  refine Ev.step (fun k => by simp only [impl_TileBack.j0]; rfl) (Ev.bind hgrey ?_)
  rw [List.length_replicate]
  exact eo
 have hcut := cutof_ev W H rf L T w h
 unfold cutV at hcut
 rw [if_pos ⟨hr, hH⟩] at hcut
 unfold impl_TileBack.f
 simp only [tw, th, within_eq, gL, gT, decide_true, cond_val, hc, Option.bind_some, if_true, List.length_replicate, hn, ipic_some, hr, holds_eq W H rf L T w h hr, hH, Bool.false_eq_true, if_false, and_self]
 cases conf with
 | true =>
  simp only [if_true]
  refine Ev.bind hcut (H' w h (strOfNums (cutF W rf L w h.toNat T [])) 0 0 hcp (by omega) (by omega) (fun X Y _ _ _ _ => ?_))
  rw [bt_nums _ (cutF_bytes W rf L w h.toNat T), Int.zero_add, Int.zero_add]
 | false =>
  simp only [Bool.false_eq_true, if_false]
  exact H' W H rf L T hr (by omega) (by omega) (fun X Y a0 a1 b0 b1 => cut_rd hr hH X Y a0 a1 b0 b1)
theorem and_le (x : Int) (m : Nat) (hm : m < 9223372036854775808) : 0 ≤ Go.bits .and .i64 x (m : Int) ∧ Go.bits .and .i64 x (m : Int) ≤ (m : Int) := by
 have h : (BitVec.ofInt 64 x &&& BitVec.ofInt 64 (m : Int)).toNat ≤ m := by
  rw [BitVec.toNat_and]
  refine Nat.le_trans Nat.and_le_right ?_
  rw [BitVec.ofInt_natCast, BitVec.toNat_ofNat]
  exact Nat.mod_le _ _
 have e : Go.bits .and .i64 x (m : Int) = IntKind.i64.wrap (((BitVec.ofInt 64 x &&& BitVec.ofInt 64 (m : Int)).toNat : Nat) : Int) := rfl
 rw [e, IntKind.wrap_i64]
 omega
theorem byte_at (b : List Int) (hb : b.length ≤ 140737488351232) (i h : Int) (h0 : 0 ≤ i) (h1 : i ≤ (b.length : Int)) :
  ∃ x i' h', spec_l01Byte.f b i h = some (x, i', h') ∧ 0 ≤ x ∧ x ≤ 255 ∧ 0 ≤ i' ∧ i' ≤ (b.length : Int) := by
 unfold spec_l01Byte.f
 by_cases c : i < (b.length : Int)
 ·rw [if_pos c, if_pos h0]
  exact ⟨_, _, _, rfl, (and_le _ 255 (by decide)).1, (and_le _ 255 (by decide)).2, by rw [wrap_id (by omega) (by omega)]; omega, by rw [wrap_id (by omega) (by omega)]; omega⟩
 ·rw [if_neg c]
  exact ⟨_, _, _, rfl, (and_le _ 255 (by decide)).1, (and_le _ 255 (by decide)).2, h0, h1⟩
theorem below_at (b : List Int) (hb : b.length ≤ 140737488351232) (i h n : Int) (h0 : 0 ≤ i) (h1 : i ≤ (b.length : Int)) (hn : 0 < n) :
  ∃ x i' h', spec_l01Below.f b i h n = some (x, i', h') ∧ 0 ≤ x ∧ x < n ∧ 0 ≤ i' ∧ i' ≤ (b.length : Int) := by
 unfold spec_l01Below.f
 rw [if_neg (by omega)]
 obtain ⟨x, i1, s1, e1, x0, x1, p1, q1⟩ := byte_at b hb i h h0 h1
 by_cases c : n ≤ 256
 ·rw [if_pos c, e1, Option.bind_some, if_neg (by omega)]
  exact ⟨_, _, _, rfl, by simp only [Int.tmod_eq_emod_of_nonneg x0]; exact Int.emod_nonneg _ (by omega), by simp only [Int.tmod_eq_emod_of_nonneg x0]; exact Int.emod_lt_of_pos _ hn, p1, q1⟩
 ·obtain ⟨y, i2, s2, e2, y0, y1, p2, q2⟩ := byte_at b hb i1 s1 p1 q1
  obtain ⟨z, i3, s3, e3, z0, z1, p3, q3⟩ := byte_at b hb i2 s2 p2 q2
  obtain ⟨w, i4, s4, e4, w0, w1, p4, q4⟩ := byte_at b hb i3 s3 p3 q3
  rw [if_neg c, e1, Option.bind_some]
  simp only []
  rw [e2, Option.bind_some]
  simp only []
  rw [e3, Option.bind_some]
  simp only []
  rw [e4, Option.bind_some, if_neg (by omega)]
  have hs : wrap64 (wrap64 (wrap64 (wrap64 (x * 16777216) + wrap64 (y * 65536)) + wrap64 (z * 256)) + w) = x * 16777216 + y * 65536 + z * 256 + w := by
   rw [wrap_id (x := x * 16777216) (by omega) (by omega), wrap_id (x := y * 65536) (by omega) (by omega), wrap_id (x := z * 256) (by omega) (by omega), wrap_id (x := x * 16777216 + y * 65536) (by omega) (by omega), wrap_id (x := x * 16777216 + y * 65536 + z * 256) (by omega) (by omega), wrap_id (by omega) (by omega)]
  refine ⟨_, _, _, rfl, ?_, ?_, p4, q4⟩
  ·simp only [hs]; rw [Int.tmod_eq_emod_of_nonneg (by omega)]; exact Int.emod_nonneg _ (by omega)
  ·simp only [hs]; rw [Int.tmod_eq_emod_of_nonneg (by omega)]; exact Int.emod_lt_of_pos _ hn
theorem new_loop (l : List Int) (hl : l.length ≤ 140737488351232) (d : Nat) : ∀ h i : Int, 0 ≤ i → (l.length : Int) - i = d → ∃ h', Ev (fun k => spec_l01New.l0 k l h i) (l, 0, h') := by
 induction d with
 | zero =>
  intro h i h0 hd
  exact ⟨h, Ev.step (f := fun _ => some (l, 0, h)) (fun k => by simp only [spec_l01New.l0]; rw [if_neg (by omega)]) (Ev.now _)⟩
 | succ d ih =>
  intro h i h0 hd
  by_cases c : i < 4000
  ·obtain ⟨h', e⟩ := ih (Go.bits .and .i64 (wrap64 ((wrap64 ((wrap64 (h * 131)) + (wrap64 (rd l i)))) + 7)) 1073741823) (i + 1) (by omega) (by omega)
   refine ⟨h', Ev.step (fun k => ?_) e⟩
   simp only [spec_l01New.l0]
   rw [if_pos (by omega), if_pos c, if_pos h0, wrap_id (x := i + 1) (by omega) (by omega)]
  ·exact ⟨h, Ev.step (f := fun _ => some (l, 0, h)) (fun k => by simp only [spec_l01New.l0]; rw [if_pos (by omega), if_neg c]) (Ev.now _)⟩
theorem new_ev (l : List Int) (hl : l.length ≤ 140737488351232) : ∃ h, Ev (fun k => spec_l01New.f k l) (l, 0, h) := by
 obtain ⟨h, e⟩ := new_loop l hl l.length (wrap64 (94701 + (l.length : Int))) 0 (by omega) (by omega)
 exact ⟨h, e⟩
theorem once_at (b : List Int) (hb : b.length ≤ 140737488351232) (i h n : Int) (h0 : 0 ≤ i) (h1 : i ≤ (b.length : Int)) (hn : 0 < n) :
  ∃ x i' h', spec_l01Once.f b i h n = some (x, i', h') ∧ 0 ≤ i' ∧ i' ≤ (b.length : Int) := by
 obtain ⟨x, i', h', e, _, _, p, q⟩ := below_at b hb i h n h0 h1 hn
 exact ⟨_, _, _, by unfold spec_l01Once.f; rw [e]; rfl, p, q⟩
def LevL (n : Nat) (l : List Int) : Prop := l.length = n ∧ ∀ x ∈ l, -5000 ≤ x ∧ x ≤ 5000
theorem levL_set {n : Nat} {l : List Int} (h : LevL n l) (i : Nat) {v : Int} (hv : -5000 ≤ v ∧ v ≤ 5000) : LevL n (l.set i v) :=
 ⟨by rw [List.length_set]; exact h.1, fun x hx => by
  rcases List.mem_or_eq_of_mem_set hx with h1 | h1
  ·exact h.2 x h1
  ·subst h1; exact hv⟩
theorem lev_j2 (b : List Int) (hb : b.length ≤ 140737488351232) (n : Nat) (hn : n = 16 ∨ n = 64) (out : List Int) (ho : LevL n out) (i x : Int) (hx : 0 ≤ x) (hx1 : x < (n : Int)) (p h : Int) (h0 : 0 ≤ p) (h1 : p ≤ (b.length : Int))
  (hh : ∀ out' : List Int, LevL n out' → ∀ p' h' : Int, 0 ≤ p' → p' ≤ (b.length : Int) → ∃ r p'' h'', Ev (fun k => spec_l11Levels.l0 k (n : Int) out' (wrap64 (i + 1)) b p' h') (r, p'', h'') ∧ LevL n r ∧ 0 ≤ p'' ∧ p'' ≤ (b.length : Int)) :
  ∃ r p'' h'', Ev (fun k => spec_l11Levels.j2 k (n : Int) out i x b p h) (r, p'', h'') ∧ LevL n r ∧ 0 ≤ p'' ∧ p'' ≤ (b.length : Int) := by
 obtain ⟨y, p1, h1', e1, y0, y1, a0, a1⟩ := below_at b hb p h 21 h0 h1 (by omega)
 have wy : -5000 ≤ wrap64 (y - 10) ∧ wrap64 (y - 10) ≤ 5000 := by rw [wrap_id (by omega) (by omega)]; omega
 obtain ⟨z, p2, h2', e2, b0, b1⟩ := once_at b hb p1 h1' 6 a0 a1 (by omega)
 cases z with
 | true =>
  obtain ⟨u, p3, h3', e3, u0, u1, c0, c1⟩ := below_at b hb p2 h2' 10001 b0 b1 (by omega)
  have wu : -5000 ≤ wrap64 (u - 5000) ∧ wrap64 (u - 5000) ≤ 5000 := by rw [wrap_id (by omega) (by omega)]; omega
  obtain ⟨r, p'', h'', er, lr⟩ := hh ((out.set x.toNat (wrap64 (y - 10))).set x.toNat (wrap64 (u - 5000))) (levL_set (levL_set ho _ wy) _ wu) p3 h3' c0 c1
  refine ⟨r, p'', h'', Ev.step (fun k => ?_) er, lr⟩
  simp only [spec_l11Levels.j2]
  rw [e1, Option.bind_some, if_pos hx, if_pos (by have := ho.1; omega), Option.bind_some, e2, Option.bind_some, if_pos rfl, e3, Option.bind_some]
 | false =>
  obtain ⟨r, p'', h'', er, lr⟩ := hh (out.set x.toNat (wrap64 (y - 10))) (levL_set ho _ wy) p2 h2' b0 b1
  refine ⟨r, p'', h'', Ev.step (fun k => ?_) er, lr⟩
  simp only [spec_l11Levels.j2]
  rw [e1, Option.bind_some, if_pos hx, if_pos (by have := ho.1; omega), Option.bind_some, e2, Option.bind_some, if_neg (by simp)]
theorem lev_l0 (b : List Int) (hb : b.length ≤ 140737488351232) (n : Nat) (hn : n = 16 ∨ n = 64) (d : Nat) : ∀ (i : Int), 0 ≤ i → 7 - i ≤ (d : Int) → i ≤ 7 → ∀ out' : List Int, LevL n out' → ∀ p' h' : Int, 0 ≤ p' → p' ≤ (b.length : Int) → ∃ r p'' h'', Ev (fun k => spec_l11Levels.l0 k (n : Int) out' i b p' h') (r, p'', h'') ∧ LevL n r ∧ 0 ≤ p'' ∧ p'' ≤ (b.length : Int) := by
 induction d with
 | zero =>
  intro i hi hd hi7 out ho p h h0 h1
  obtain ⟨x, p1, h1', e1, x0, x1, a0, a1⟩ := below_at b hb p h 7 h0 h1 (by omega)
  have hj : Ev (fun k => spec_l11Levels.j1 k (n : Int) out i false b p1 h1') (out, p1, h1') := Ev.step (f := fun _ => some (out, p1, h1')) (fun k => by simp only [spec_l11Levels.j1]; rfl) (Ev.now _)
  refine ⟨out, p1, h1', Ev.step (fun k => ?_) hj, ho, a0, a1⟩
  simp only [spec_l11Levels.l0]
  rw [e1, Option.bind_some, if_neg (by omega)]
 | succ d ih =>
  intro i hi hd hi7 out ho p h h0 h1
  obtain ⟨x, p1, h1', e1, x0, x1, a0, a1⟩ := below_at b hb p h 7 h0 h1 (by omega)
  by_cases c : i < x
  ·obtain ⟨y, p2, h2', e2, y0, y1, b0, b1⟩ := below_at b hb p1 h1' (n : Int) a0 a1 (by omega)
   obtain ⟨z, p3, h3', e3, c0, c1⟩ := once_at b hb p2 h2' 2 b0 b1 (by omega)
   have w : wrap64 (i + 1) = i + 1 := wrap_id (by omega) (by omega)
   have hh := ih (i + 1) (by clear w; omega) (by clear w; omega) (by clear w; omega)
   rw [← w] at hh
   have hd' : decide ((n : Int) > 0) = true := decide_eq_true (by clear w; omega)
   have ht : Int.tmod y 5 = y % 5 := Int.tmod_eq_emod_of_nonneg y0
   cases z with
   | true =>
    obtain ⟨r, p'', h'', er, lr⟩ := lev_j2 b hb n hn out ho i (y % 5) (by clear w ht; omega) (by clear w ht; omega) p3 h3' c0 c1 hh
    refine ⟨r, p'', h'', Ev.step (f := fun k => spec_l11Levels.j1 k (n : Int) out i true b p1 h1') (fun k => ?_) (Ev.step (fun k => ?_) er), lr⟩
    ·simp only [spec_l11Levels.l0]
     rw [e1, Option.bind_some, if_pos c, hd']
    ·simp only [spec_l11Levels.j1]
     rw [if_pos trivial, e2, Option.bind_some, e3, Option.bind_some, if_pos rfl, ht]
   | false =>
    obtain ⟨r, p'', h'', er, lr⟩ := lev_j2 b hb n hn out ho i y y0 y1 p3 h3' c0 c1 hh
    refine ⟨r, p'', h'', Ev.step (f := fun k => spec_l11Levels.j1 k (n : Int) out i true b p1 h1') (fun k => ?_) (Ev.step (fun k => ?_) er), lr⟩
    ·simp only [spec_l11Levels.l0]
     rw [e1, Option.bind_some, if_pos c, hd']
    ·simp only [spec_l11Levels.j1]
     rw [if_pos trivial, e2, Option.bind_some, e3, Option.bind_some, if_neg (by simp)]
  ·have hj : Ev (fun k => spec_l11Levels.j1 k (n : Int) out i false b p1 h1') (out, p1, h1') := Ev.step (f := fun _ => some (out, p1, h1')) (fun k => by simp only [spec_l11Levels.j1]; rfl) (Ev.now _)
   refine ⟨out, p1, h1', Ev.step (fun k => ?_) hj, ho, a0, a1⟩
   simp only [spec_l11Levels.l0]
   rw [e1, Option.bind_some, if_neg c]
theorem par_at (b : List Int) (hb : b.length ≤ 140737488351232) (p h : Int) (h0 : 0 ≤ p) (h1 : p ≤ (b.length : Int)) :
  ∃ q l e z p' h', spec_l05ParRight.f b p h = some (q, l, e, z, p', h') ∧ condB q l e = true ∧ 0 ≤ p' ∧ p' ≤ (b.length : Int) := by
 obtain ⟨x, p1, h1', e1, x0, x1, a0, a1⟩ := below_at b hb p h 41 h0 h1 (by omega)
 obtain ⟨y, p2, h2', e2, b0, b1⟩ := once_at b hb p1 h1' 4 a0 a1 (by omega)
 obtain ⟨z, p3, h3', e3, z0, z1, c0, c1⟩ := below_at b hb p2 h2' 3 b0 b1 (by omega)
 have hc : ∀ l e : Bool, (l && e) = false → condB x l e = true := by
  intro l e h
  unfold condB
  rw [decide_eq_true (by omega), h]
  rfl
 unfold spec_l05ParRight.f
 simp only [e1, e2, e3, Option.bind_some]
 by_cases d0 : z = 0
 ·simp only [d0, if_true]; exact ⟨_, _, _, _, _, _, rfl, hc _ _ rfl, c0, c1⟩
 ·by_cases d1 : z = 1
  ·simp only [d1, if_true]; exact ⟨_, _, _, _, _, _, rfl, hc _ _ rfl, c0, c1⟩
  ·simp only [d0, d1, if_false]; exact ⟨_, _, _, _, _, _, rfl, hc _ _ rfl, c0, c1⟩
theorem cond_at (b : List Int) (hb : b.length ≤ 140737488351232) (p h : Int) (h0 : 0 ≤ p) (h1 : p ≤ (b.length : Int)) :
  ∃ a q l e p' h', spec_l14Cond.f b p h = some (a, q, l, e, p', h') ∧ condB q l e = true ∧ 0 ≤ p' ∧ p' ≤ (b.length : Int) := by
 obtain ⟨q, l, e, z, p1, h1', e1, hc, a0, a1⟩ := par_at b hb p h h0 h1
 obtain ⟨y, p2, h2', e2, b0, b1⟩ := once_at b hb p1 h1' 2 a0 a1 (by omega)
 unfold spec_l14Cond.f
 simp only [e1, e2, Option.bind_some]
 exact ⟨_, _, _, _, _, _, rfl, hc, b0, b1⟩
theorem snoc_all {P : Int → Prop} {l : List Int} {x : Int} (h : ∀ y ∈ l, P y) (hx : P x) : ∀ y ∈ l ++ [x], P y := by
 intro y hy
 rcases List.mem_append.1 hy with hy | hy
 ·exact h y hy
 ·simp at hy; subst hy; exact hx
theorem mod256 (x : Int) : 0 ≤ x % 256 ∧ x % 256 ≤ 255 := by omega
theorem dots_loop (b : List Int) (hb : b.length ≤ 140737488351232) (n : Nat) (hn : n ≤ 1000000) (d : Nat) : ∀ (out : List Int) (x i p h : Int), 0 ≤ i → (n : Int) - i = (d : Int) → (out.length : Int) = i → (∀ y ∈ out, 0 ≤ y ∧ y ≤ 255) → 0 ≤ p → p ≤ (b.length : Int) →
  ∃ r p' h', Ev (fun k => spec_l12Dots.l0 k (n : Int) out x i b p h) (strOfNums r, p', h') ∧ r.length = n ∧ (∀ y ∈ r, 0 ≤ y ∧ y ≤ 255) ∧ 0 ≤ p' ∧ p' ≤ (b.length : Int) := by
 induction d with
 | zero =>
  intro out x i p h hi hd ho hx h0 h1
  exact ⟨out, p, h, Ev.step (f := fun _ => some (strOfNums out, p, h)) (fun k => by simp only [spec_l12Dots.l0]; rw [if_neg (by omega)]) (Ev.now _), by omega, hx, h0, h1⟩
 | succ d ih =>
  intro out x i p h hi hd ho hx h0 h1
  obtain ⟨y, p1, h1', e1, y0, y1, q0, q1⟩ := below_at b hb p h 6 h0 h1 (by omega)
  by_cases c0 : y = 0
  ·obtain ⟨z, p2, h2', e2, z0, z1, s0, s1⟩ := byte_at b hb p1 h1' q0 q1
   obtain ⟨r, p', h', er, hr⟩ := ih (out ++ [z % 256]) z (i + 1) p2 h2' (by omega) (by omega) (by simp; omega) (snoc_all hx (mod256 _)) s0 s1
   refine ⟨r, p', h', Ev.step (fun k => ?_) er, hr⟩
   simp only [spec_l12Dots.l0]
   rw [if_pos (by omega), e1, Option.bind_some, if_pos c0, e2, Option.bind_some, if_pos (by omega), wrap_id (x := i + 1) (by omega) (by omega)]
  ·by_cases c1 : y = 1
   ·obtain ⟨z, p2, h2', e2, z0, z1, s0, s1⟩ := below_at b hb p1 h1' 9 q0 q1 (by omega)
    obtain ⟨r, p', h', er, hr⟩ := ih (out ++ [(Go.bits .and .i64 (wrap64 ((wrap64 (x + z)) + 252)) 255) % 256]) (Go.bits .and .i64 (wrap64 ((wrap64 (x + z)) + 252)) 255) (i + 1) p2 h2' (by omega) (by omega) (by simp; omega) (snoc_all hx (mod256 _)) s0 s1
    refine ⟨r, p', h', Ev.step (fun k => ?_) er, hr⟩
    simp only [spec_l12Dots.l0]
    rw [if_pos (by omega), e1, Option.bind_some, if_neg c0, if_pos c1, e2, Option.bind_some, if_pos (by omega), wrap_id (x := i + 1) (by omega) (by omega)]
   ·obtain ⟨r, p', h', er, hr⟩ := ih (out ++ [x % 256]) x (i + 1) p1 h1' (by omega) (by omega) (by simp; omega) (snoc_all hx (mod256 _)) q0 q1
    refine ⟨r, p', h', Ev.step (fun k => ?_) er, hr⟩
    simp only [spec_l12Dots.l0]
    rw [if_pos (by omega), e1, Option.bind_some, if_neg c0, if_neg c1, if_pos (by omega), wrap_id (x := i + 1) (by omega) (by omega)]
theorem dots_ev (b : List Int) (hb : b.length ≤ 140737488351232) (p h : Int) (n : Nat) (hn : n ≤ 1000000) (h0 : 0 ≤ p) (h1 : p ≤ (b.length : Int)) :
  ∃ r p' h', Ev (fun k => spec_l12Dots.f k b p h (n : Int)) (strOfNums r, p', h') ∧ r.length = n ∧ (∀ y ∈ r, 0 ≤ y ∧ y ≤ 255) ∧ 0 ≤ p' ∧ p' ≤ (b.length : Int) := by
 obtain ⟨x, p1, h1', e1, x0, x1, q0, q1⟩ := byte_at b hb p h h0 h1
 obtain ⟨r, p', h', er, hr⟩ := dots_loop b hb n hn n [] x 0 p1 h1' (by omega) (by omega) rfl (by simp) q0 q1
 refine ⟨r, p', h', ?_, hr⟩
 unfold spec_l12Dots.f
 simp only [e1, Option.bind_some]
 exact er
theorem levels_at (b : List Int) (hb : b.length ≤ 140737488351232) (p h : Int) (h0 : 0 ≤ p) (h1 : p ≤ (b.length : Int)) :
  ∃ r p' h', Ev (fun k => spec_l11Levels.f k b p h 64) (r, p', h') ∧ LevL 64 r ∧ 0 ≤ p' ∧ p' ≤ (b.length : Int) := by
 obtain ⟨r, p', h', er, lr⟩ := lev_l0 b hb 64 (.inr rfl) 7 0 (by omega) (by omega) (by omega) (List.replicate 64 0) ⟨by simp, fun x hx => by have := List.eq_of_mem_replicate hx; omega⟩ p h h0 h1
 refine ⟨r, p', h', ?_, lr⟩
 unfold spec_l11Levels.f
 refine Ev.congr (fun k => ?_) er
 rw [if_pos (by omega), if_pos (by omega)]; rfl
theorem any_j1 (b : List Int) (hb : b.length ≤ 140737488351232) (y : Bool) (p h : Int) (h0 : 0 ≤ p) (h1 : p ≤ (b.length : Int)) :
  ∃ kd mode dx dy l p' h', Ev (fun k => spec_l15Square.j1 k y b p h) (kd, mode, dx, dy, l, p', h') ∧ 0 ≤ p' ∧ p' ≤ (b.length : Int) := by
 cases y with
 | true =>
  obtain ⟨x, p1, h1', e1, x0, x1, a0, a1⟩ := below_at b hb p h 7 h0 h1 (by omega)
  obtain ⟨z, p2, h2', e2, z0, z1, b0, b1⟩ := below_at b hb p1 h1' 7 a0 a1 (by omega)
  obtain ⟨r, p3, h3', e3, hr, c0, c1⟩ := levels_at b hb p2 h2' b0 b1
  obtain ⟨t, p4, h4', e4, d0, d1⟩ := once_at b hb p3 h3' 6 c0 c1 (by omega)
  cases t with
  | true =>
   obtain ⟨u, p5, h5', e5, u0, u1, f0, f1⟩ := below_at b hb p4 h4' 33 d0 d1 (by omega)
   refine ⟨1, 0, wrap64 (u - 16), wrap64 (z - 3), r, p5, h5', ?_, f0, f1⟩
   refine Ev.step (fun k => by simp only [spec_l15Square.j1, if_true, e1, e2, Option.bind_some]; rfl) (Ev.bind e3 ?_)
   simp only [e4, Option.bind_some, if_true, e5]
   exact Ev.now _
  | false =>
   refine ⟨1, 0, wrap64 (x - 3), wrap64 (z - 3), r, p4, h4', ?_, d0, d1⟩
   refine Ev.step (fun k => by simp only [spec_l15Square.j1, if_true, e1, e2, Option.bind_some]; rfl) (Ev.bind e3 ?_)
   simp only [e4, Option.bind_some, Bool.false_eq_true, if_false]
   exact Ev.now _
 | false =>
  obtain ⟨x, p1, h1', e1, x0, x1, a0, a1⟩ := below_at b hb p h 4 h0 h1 (by omega)
  obtain ⟨r, p3, h3', e3, hr, c0, c1⟩ := levels_at b hb p1 h1' a0 a1
  refine ⟨2, x, 0, 0, r, p3, h3', ?_, c0, c1⟩
  exact Ev.step (fun k => by simp only [spec_l15Square.j1, Bool.false_eq_true, if_false, e1, Option.bind_some]; rfl) (Ev.bind e3 (Ev.now _))
theorem any_square (b : List Int) (hb : b.length ≤ 140737488351232) (p h : Int) (h0 : 0 ≤ p) (h1 : p ≤ (b.length : Int)) (key : Bool) (q : Int) (large ex : Bool) :
  ∃ kd mode dx dy l p' h', Ev (fun k => spec_l15Square.f k b p h key q large ex) (kd, mode, dx, dy, l, p', h') ∧ 0 ≤ p' ∧ p' ≤ (b.length : Int) := by
 unfold spec_l15Square.f
 cases key with
 | true =>
  obtain ⟨kd, mode, dx, dy, l, p', h', e, c⟩ := any_j1 b hb false p h h0 h1
  refine ⟨kd, mode, dx, dy, l, p', h', ?_, c⟩
  simp only [if_true]
  exact Ev.step (fun k => by simp only [spec_l15Square.j0, Bool.false_eq_true, if_false, if_true]) e
 | false =>
  obtain ⟨t, p1, h1', e1, a0, a1⟩ := once_at b hb p h 4 h0 h1 (by omega)
  simp only [Bool.false_eq_true, if_false, e1, Option.bind_some]
  cases t with
  | true =>
   exact ⟨0, 0, 0, 0, [], p1, h1', Ev.step (f := fun _ => some (0, 0, 0, 0, [], p1, h1')) (fun k => by simp only [spec_l15Square.j0, if_true]) (Ev.now _), a0, a1⟩
  | false =>
   obtain ⟨u, p2, h2', e2, b0, b1⟩ := once_at b hb p1 h1' 2 a0 a1 (by omega)
   obtain ⟨kd, mode, dx, dy, l, p', h', e, c⟩ := any_j1 b hb u p2 h2' b0 b1
   refine ⟨kd, mode, dx, dy, l, p', h', ?_, c⟩
   exact Ev.step (fun k => by simp only [spec_l15Square.j0, Bool.false_eq_true, if_false, e2, Option.bind_some]) e
theorem any_squares (b : List Int) (hb : b.length ≤ 140737488351232) (key : Bool) (q : Int) (large ex : Bool) (n : Int) (hn : n ≤ 1000) (d : Nat) : ∀ (out : List S63) (i p h : Int), 0 ≤ i → n - i = (d : Int) → (out.length : Int) = i → 0 ≤ p → p ≤ (b.length : Int) →
  ∃ xs p' h', Ev (fun k => spec_l16Squares.l0 k n out i b p h key q large ex) (xs, p', h') := by
 induction d with
 | zero =>
  intro out i p h hi hd ho h0 h1
  exact ⟨out, p, h, Ev.step (f := fun _ => some (out, p, h)) (fun k => by simp only [spec_l16Squares.l0]; rw [if_neg (by omega)]) (Ev.now _)⟩
 | succ d ih =>
  intro out i p h hi hd ho h0 h1
  obtain ⟨kd, mode, dx, dy, l, p1, h1', e, c0, c1⟩ := any_square b hb p h h0 h1 key q large ex
  obtain ⟨xs, p', h', er⟩ := ih (out ++ [⟨kd, mode, dx, dy, l⟩]) (i + 1) p1 h1' (by omega) (by omega) (by rw [List.length_append]; simp; omega) c0 c1
  refine ⟨xs, p', h', Ev.step (fun k => by simp only [spec_l16Squares.l0]; rw [if_pos (by omega)]) (Ev.bind e ?_)⟩
  have g1 : out.length < 2513169434916 := by omega
  have g2 : wrap64 (i + 1) = i + 1 := wrap_id (by omega) (by omega)
  simp only [g1, if_true, g2]
  exact er
theorem eight (x : Int) (h0 : 0 ≤ x) (h1 : x < 2) : wrap64 (8 * x) = 8 * x := wrap_id (by omega) (by omega)
theorem drawtile_ev (l : List Int) (hl : l.length ≤ 140737488351232) : ∃ W H rr L T w h key q large ex conf xs, Ev (fun k => spec_DrawTile.f k l) (W, H, strOfNums rr, L, T, w, h, key, q, large, ex, conf, xs) ∧ condB q large ex = true ∧
  (rr.length : Int) = W * H ∧ (∀ y ∈ rr, 0 ≤ y ∧ y ≤ 255) ∧ (w = 8 ∨ w = 16) ∧ (h = 8 ∨ h = 16) ∧ 0 ≤ L ∧ 0 ≤ T ∧ L + w ≤ W ∧ T + h ≤ H ∧ W ≤ 32 ∧ H ≤ 28 := by
 obtain ⟨s, es⟩ := new_ev l hl
 obtain ⟨a, p1, h1', e1, a0, a1, u1, v1⟩ := below_at l hl 0 s 2 (by omega) (by omega) (by omega)
 obtain ⟨b, p2, h2', e2, b0, b1, u2, v2⟩ := below_at l hl p1 h1' 2 u1 v1 (by omega)
 obtain ⟨c, p3, h3', e3, c0, c1, u3, v3⟩ := below_at l hl p2 h2' 2 u2 v2 (by omega)
 obtain ⟨d, p4, h4', e4, d0, d1, u4, v4⟩ := below_at l hl p3 h3' 2 u3 v3 (by omega)
 obtain ⟨e, p5, h5', e5, f0, f1, u5, v5⟩ := below_at l hl p4 h4' 2 u4 v4 (by omega)
 obtain ⟨f, p6, h6', e6, g0, g1, u6, v6⟩ := below_at l hl p5 h5' 5 u5 v5 (by omega)
 have wa := eight a a0 a1
 have wb := eight b b0 b1
 have wc := eight c c0 c1
 have wd := eight d d0 d1
 have we := eight e f0 f1
 obtain ⟨L, eL⟩ : ∃ L, 8 * a = L := ⟨_, rfl⟩
 obtain ⟨T, eT⟩ : ∃ T, 8 * b = T := ⟨_, rfl⟩
 obtain ⟨w, ew⟩ : ∃ w, 8 + 8 * c = w := ⟨_, rfl⟩
 obtain ⟨h, eh⟩ : ∃ h, 8 + 8 * d = h := ⟨_, rfl⟩
 obtain ⟨W, eW⟩ : ∃ W, L + w + 8 * e = W := ⟨_, rfl⟩
 obtain ⟨H, eH⟩ : ∃ H, T + h + f = H := ⟨_, rfl⟩
 have wL : wrap64 L = L := by rw [← eL]; exact wa
 have wT : wrap64 T = T := by rw [← eT]; exact wb
 have hw : w = 8 ∨ w = 16 := by clear wL wT wa wb wc wd we; omega
 have hh : h = 8 ∨ h = 16 := by clear wL wT wa wb wc wd we; omega
 have w1 : wrap64 (8 + 8 * c) = w := by clear wL wT wa wb wc wd we; rw [← ew]; exact wrap_id (by omega) (by omega)
 have w2 : wrap64 (8 + 8 * d) = h := by clear wL wT wa wb wc wd we w1; rw [← eh]; exact wrap_id (by omega) (by omega)
 have w3 : wrap64 (L + w) = L + w := by clear wL wT wa wb wc wd we w1 w2; exact wrap_id (by omega) (by omega)
 have w4 : wrap64 (T + h) = T + h := by clear wL wT wa wb wc wd we w1 w2 w3; exact wrap_id (by omega) (by omega)
 have w5 : wrap64 (L + w + 8 * e) = W := by clear wL wT wa wb wc wd we w1 w2 w3 w4; rw [← eW]; exact wrap_id (by omega) (by omega)
 have w6 : wrap64 (T + h + f) = H := by clear wL wT wa wb wc wd we w1 w2 w3 w4 w5; rw [← eH]; exact wrap_id (by omega) (by omega)
 have hWH : 0 ≤ W * H ∧ W * H ≤ 32 * 28 := by
  clear wL wT wa wb wc wd we w1 w2 w3 w4 w5 w6
  exact ⟨Int.mul_nonneg (by omega) (by omega), Int.mul_le_mul (by omega) (by omega) (by omega) (by omega)⟩
 obtain ⟨n, en⟩ := Int.eq_ofNat_of_zero_le hWH.1
 obtain ⟨rr, p7, h7', e7, lr, br, u7, v7⟩ := dots_ev l hl p6 h6' n (by clear wL wT wa wb wc wd we w1 w2 w3 w4 w5 w6; omega) u6 v6
 obtain ⟨key, q, large, ex, p8, h8', e8, hc, u8, v8⟩ := cond_at l hl p7 h7' u7 v7
 obtain ⟨z, p9, h9', e9, u9, v9⟩ := once_at l hl p8 h8' 3 u8 v8 (by omega)
 have hn : ∃ m : Nat, wrap64 ((wrap64 (Int.tdiv w 8)) * (wrap64 (Int.tdiv h 8))) = (m : Int) ∧ m ≤ 4 := by
  clear wL wT wa wb wc wd we w1 w2 w3 w4 w5 w6
  rcases hw with rfl | rfl <;> rcases hh with rfl | rfl
  ·exact ⟨1, by decide +kernel, by omega⟩
  ·exact ⟨2, by decide +kernel, by omega⟩
  ·exact ⟨2, by decide +kernel, by omega⟩
  ·exact ⟨4, by decide +kernel, by omega⟩
 obtain ⟨m, em, hm⟩ := hn
 obtain ⟨xs, p10, h10', e10⟩ := any_squares l hl key q large ex (m : Int) (by clear wL wT wa wb wc wd we w1 w2 w3 w4 w5 w6 em; omega) m [] 0 p9 h9' (by omega) (by omega) rfl u9 v9
 refine ⟨W, H, rr, L, T, w, h, key, q, large, ex, !z, xs, ?_, hc, by rw [lr]; exact en.symm, br, hw, hh, by clear wL wT wa wb wc wd we w1 w2 w3 w4 w5 w6 em; omega, by clear wL wT wa wb wc wd we w1 w2 w3 w4 w5 w6 em; omega, by clear wL wT wa wb wc wd we w1 w2 w3 w4 w5 w6 em; omega, by clear wL wT wa wb wc wd we w1 w2 w3 w4 w5 w6 em; omega, by clear wL wT wa wb wc wd we w1 w2 w3 w4 w5 w6 em; omega, by clear wL wT wa wb wc wd we w1 w2 w3 w4 w5 w6 em; omega⟩
 unfold spec_DrawTile.f
 refine Ev.bind es (Ev.bind (a := (W, H, strOfNums rr, L, T, w, h, key, q, large, ex, !z, xs, p10, h10')) ?_ (Ev.now _))
 have wn : wrap64 (W * H) = (n : Int) := by clear wL wT wa wb wc wd we w1 w2 w3 w4 w5 w6 em; rw [en]; exact wrap_id (by omega) (by omega)
 unfold spec_l16Drawn.f spec_l12Sized.f spec_l16Squares.f
 simp only [e1, e2, e3, e4, e5, e6, Option.bind_some, wa, wb, wc, wd, we, eL, eT, wL, wT, w1, w2, w3, w4, w5, w6, wn, em]
 refine Ev.bind (Ev.bind e7 (Ev.now _)) ?_
 simp only [e8, e9, Option.bind_some]
 exact Ev.bind e10 (Ev.now _)
theorem FnSkips : laws_FnSkips.Pure := by
 intro l _ hl _
 refine Ev.rounds ?_
 unfold laws_FnSkips.f laws_big.f
 simp only [Option.bind_some]
 by_cases c : (l.length : Int) > 1048576
 ·simp only [c, decide_true, if_true]; exact Ev.now _
 ·simp only [c, decide_false, Bool.false_eq_true, if_false]
  obtain ⟨W, H, rr, L, T, w, h, key, q, large, ex, conf, xs, ed, hc, lr, br, hw, hh, hL, hT, hLW, hTH, hW, hH⟩ := drawtile_ev l (by omega)
  have hn : ∃ m : Nat, wrap64 ((wrap64 (Int.tdiv w 8)) * (wrap64 (Int.tdiv h 8))) = (m : Int) ∧ m ≤ 4 := by
   rcases hw with rfl | rfl <;> rcases hh with rfl | rfl
   ·exact ⟨1, by decide +kernel, by omega⟩
   ·exact ⟨2, by decide +kernel, by omega⟩
   ·exact ⟨2, by decide +kernel, by omega⟩
   ·exact ⟨4, by decide +kernel, by omega⟩
  obtain ⟨n, en, hn4⟩ := hn
  have hr : PicR W H (strOfNums rr) := ⟨by omega, by omega, by rw [strOfNums_size]; exact lr⟩
  have hho : HoldR W H L T w h := ⟨by omega, by omega, by omega, by omega⟩
  have e1 := tileback_ev W H (strOfNums rr) hr L T w h hw hh hho q large ex hc n en true
  have e2 := tileback_ev W H (strOfNums rr) hr L T w h hw hh hho q large ex hc n en false
  have e3 := cutof_ev W H (strOfNums rr) L T w h
  unfold cutV at e3
  rw [if_pos ⟨hr, hho⟩] at e3
  have g1 : (0 : Int) ≤ (n : Int) := by omega
  have g2 : n ≤ 5026338869833 := by omega
  refine Ev.bind ed ?_
  simp only [en, g1, if_true, Int.toNat_natCast, g2, Option.bind_some]
  refine Ev.bind e1 (Ev.bind e2 (Ev.bind e3 ?_))
  simp only [if_true, beq_self_eq_true, Bool.and_self]
  exact Ev.now _
end Go.Proofs.Ytnaccgommclhaaa.Pure