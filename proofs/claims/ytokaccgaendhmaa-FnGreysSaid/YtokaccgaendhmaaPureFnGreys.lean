/- For all codes: a grey picture is right, and grey at each place, also outside; and so is each block of it. The only condition is the row's own bound of the code's length. -/
import Derived.Test.YtokaccgaendhmaaQFnGreysx3
namespace Go.Proofs.Ytokaccgaendhmaa.Pure
open Go.RowKit Go.Proofs.Ytokaccgaendhmaa.QFnGreys Go.Proofs.YtokaccgaendhmaaW.PrintWords Go.Proofs.YtokaccgaendhmaaW.PrintLast Go.Proofs.YtokaccgaendhmaaW.PrintMore
set_option linter.unusedVariables false
set_option linter.unusedSimpArgs false

theorem wrap_id {x : Int} (h0 : -9223372036854775808 ≤ x) (h1 : x ≤ 9223372036854775807) : wrap64 x = x := by
  unfold wrap64
  omega
theorem wf64 {n : Int} (h : (Lit.int .i64 n).wf = true) : -9223372036854775808 ≤ n ∧ n ≤ 9223372036854775807 := by
  simp [Lit.wf, IntKind.min, IntKind.max, IntKind.signed, IntKind.bits] at h
  omega
theorem wfu8 {n : Int} (h : (Lit.int .u8 n).wf = true) : 0 ≤ n ∧ n ≤ 255 := by
  simp [Lit.wf, IntKind.min, IntKind.max, IntKind.signed, IntKind.bits] at h
  omega
theorem within_eq (a b c : Int) : impl_within.f a b c = some (decide (b ≤ a ∧ a ≤ c)) := by
  unfold impl_within.f
  by_cases h : a ≥ b
  · rw [if_pos h]; congr 1; rw [decide_eq_decide]; omega
  · rw [if_neg h]; congr 1; symm; rw [decide_eq_false_iff_not]; omega

theorem and_le (x : Int) (m : Nat) (hm : m < 9223372036854775808) : 0 ≤ Go.bits .and .i64 x (m : Int) ∧ Go.bits .and .i64 x (m : Int) ≤ (m : Int) := by
  have h : (BitVec.ofInt 64 x &&& BitVec.ofInt 64 (m : Int)).toNat ≤ m := by
    rw [BitVec.toNat_and]
    refine Nat.le_trans Nat.and_le_right ?_
    rw [BitVec.ofInt_natCast, BitVec.toNat_ofNat]
    exact Nat.mod_le _ _
  have e : Go.bits .and .i64 x (m : Int) = IntKind.i64.wrap (((BitVec.ofInt 64 x &&& BitVec.ofInt 64 (m : Int)).toNat : Nat) : Int) := rfl
  rw [e, IntKind.wrap_i64]
  omega

theorem rounds_ev {α : Type} {g : Nat → Option α} {r : α} (h : Ev g r) : ∃ k, g k = some r := h.rounds
theorem byte_at (b : List Int) (hb : b.length ≤ 140737488351232) (i h : Int) (h0 : 0 ≤ i) (h1 : i ≤ (b.length : Int)) :
    ∃ x i' h', spec_l01Byte.f b i h = some (x, i', h') ∧ 0 ≤ x ∧ x ≤ 255 ∧ 0 ≤ i' ∧ i' ≤ (b.length : Int) := by
  unfold spec_l01Byte.f
  by_cases c : i < (b.length : Int)
  · rw [if_pos c, if_pos h0]
    exact ⟨_, _, _, rfl, (and_le _ 255 (by decide)).1, (and_le _ 255 (by decide)).2, by rw [wrap_id (by omega) (by omega)]; omega, by rw [wrap_id (by omega) (by omega)]; omega⟩
  · rw [if_neg c]
    exact ⟨_, _, _, rfl, (and_le _ 255 (by decide)).1, (and_le _ 255 (by decide)).2, h0, h1⟩
theorem below_at (b : List Int) (hb : b.length ≤ 140737488351232) (i h n : Int) (h0 : 0 ≤ i) (h1 : i ≤ (b.length : Int)) (hn : 0 < n) :
    ∃ x i' h', spec_l01Below.f b i h n = some (x, i', h') ∧ 0 ≤ x ∧ x < n ∧ 0 ≤ i' ∧ i' ≤ (b.length : Int) := by
  unfold spec_l01Below.f
  rw [if_neg (by omega)]
  obtain ⟨x, i1, s1, e1, x0, x1, p1, q1⟩ := byte_at b hb i h h0 h1
  by_cases c : n ≤ 256
  · rw [if_pos c, e1, Option.bind_some, if_neg (by omega)]
    exact ⟨_, _, _, rfl, by simp only [Int.tmod_eq_emod_of_nonneg x0]; exact Int.emod_nonneg _ (by omega), by simp only [Int.tmod_eq_emod_of_nonneg x0]; exact Int.emod_lt_of_pos _ hn, p1, q1⟩
  · obtain ⟨y, i2, s2, e2, y0, y1, p2, q2⟩ := byte_at b hb i1 s1 p1 q1
    obtain ⟨z, i3, s3, e3, z0, z1, p3, q3⟩ := byte_at b hb i2 s2 p2 q2
    obtain ⟨w, i4, s4, e4, w0, w1, p4, q4⟩ := byte_at b hb i3 s3 p3 q3
    rw [if_neg c, e1, Option.bind_some]
    simp only []
    rw [e2, Option.bind_some]
    simp only []
    rw [e3, Option.bind_some]
    simp only []
    rw [e4, Option.bind_some, if_neg (by omega)]
    have hs : wrap64 (wrap64 (wrap64 (wrap64 (x * 16777216) + wrap64 (y * 65536)) + wrap64 (z * 256)) + w) = x * 16777216 + y * 65536 + z * 256 + w := by
      rw [wrap_id (x := x * 16777216) (by omega) (by omega), wrap_id (x := y * 65536) (by omega) (by omega), wrap_id (x := z * 256) (by omega) (by omega), wrap_id (x := x * 16777216 + y * 65536) (by omega) (by omega), wrap_id (x := x * 16777216 + y * 65536 + z * 256) (by omega) (by omega), wrap_id (by omega) (by omega)]
    refine ⟨_, _, _, rfl, ?_, ?_, p4, q4⟩
    · simp only [hs]; rw [Int.tmod_eq_emod_of_nonneg (by omega)]; exact Int.emod_nonneg _ (by omega)
    · simp only [hs]; rw [Int.tmod_eq_emod_of_nonneg (by omega)]; exact Int.emod_lt_of_pos _ hn
theorem below_any (b : List Int) (hb : b.length ≤ 140737488351232) (i h n : Int) (h0 : 0 ≤ i) (h1 : i ≤ (b.length : Int)) :
    ∃ x i' h', spec_l01Below.f b i h n = some (x, i', h') ∧ 0 ≤ x ∧ (0 < n → x < n) ∧ 0 ≤ i' ∧ i' ≤ (b.length : Int) := by
  by_cases hn : 0 < n
  · obtain ⟨x, i', h', e, x0, x1, p, q⟩ := below_at b hb i h n h0 h1 hn
    exact ⟨x, i', h', e, x0, fun _ => x1, p, q⟩
  · exact ⟨0, i, h, by unfold spec_l01Below.f; rw [if_pos (by omega)], by omega, fun h => absurd h hn, h0, h1⟩
theorem new_loop (l : List Int) (hl : l.length ≤ 140737488351232) (d : Nat) : ∀ h i : Int, 0 ≤ i → (l.length : Int) - i = d → ∃ h', Ev (fun k => spec_l01New.l0 k l h i) (l, 0, h') := by
  induction d with
  | zero =>
    intro h i h0 hd
    exact ⟨h, Ev.step (f := fun _ => some (l, 0, h)) (fun k => by simp only [spec_l01New.l0]; rw [if_neg (by omega)]) (Ev.now _)⟩
  | succ d ih =>
    intro h i h0 hd
    by_cases c : i < 4000
    · obtain ⟨h', e⟩ := ih (Go.bits .and .i64 (wrap64 ((wrap64 ((wrap64 (h * 131)) + (wrap64 (rd l i)))) + 7)) 1073741823) (i + 1) (by omega) (by omega)
      refine ⟨h', Ev.step (fun k => ?_) e⟩
      simp only [spec_l01New.l0]
      rw [if_pos (by omega), if_pos c, if_pos h0, wrap_id (x := i + 1) (by omega) (by omega)]
    · exact ⟨h, Ev.step (f := fun _ => some (l, 0, h)) (fun k => by simp only [spec_l01New.l0]; rw [if_pos (by omega), if_neg c]) (Ev.now _)⟩
theorem new_ev (l : List Int) (hl : l.length ≤ 140737488351232) : ∃ h, Ev (fun k => spec_l01New.f k l) (l, 0, h) := by
  obtain ⟨h, e⟩ := new_loop l hl l.length (wrap64 (94701 + (l.length : Int))) 0 (by omega) (by omega)
  exact ⟨h, e⟩
theorem places_loop (b : List Int) (hb : b.length ≤ 140737488351232) (d : Nat) : ∀ (out : List Int) (j i h : Int), 0 ≤ j → 12 - j = (d : Int) → (out.length : Int) = j → (∀ x ∈ out, 0 ≤ x ∧ x < 10000) → 0 ≤ i → i ≤ (b.length : Int) →
    ∃ p, Ev (fun k => spec_DrawPlaces.l0 k out j b i h) p ∧ p.length = 12 ∧ ∀ x ∈ p, 0 ≤ x ∧ x < 10000 := by
  induction d with
  | zero =>
    intro out j i h hj hd ho hx h0 h1
    exact ⟨out, Ev.step (f := fun _ => some out) (fun k => by simp only [spec_DrawPlaces.l0]; rw [if_neg (by omega)]) (Ev.now _), by omega, hx⟩
  | succ d ih =>
    intro out j i h hj hd ho hx h0 h1
    obtain ⟨x, i', h', e, x0, x1, p, q⟩ := below_at b hb i h 10000 h0 h1 (by omega)
    obtain ⟨r, er, hr⟩ := ih (out ++ [x]) (j + 1) i' h' (by omega) (by omega) (by simp; omega) (by
      intro y hy
      rcases List.mem_append.1 hy with hy | hy
      · exact hx y hy
      · simp at hy; subst hy; exact ⟨x0, x1⟩) p q
    refine ⟨r, Ev.step (fun k => ?_) er, hr⟩
    simp only [spec_DrawPlaces.l0]
    rw [if_pos (by omega), e, Option.bind_some, if_pos (by omega), wrap_id (x := j + 1) (by omega) (by omega)]
theorem places_ev (l : List Int) (hl : l.length ≤ 140737488351232) : ∃ p, Ev (fun k => spec_DrawPlaces.f k l) p ∧ p.length = 12 ∧ ∀ x ∈ p, 0 ≤ x ∧ x < 10000 := by
  obtain ⟨h, e⟩ := new_ev l hl
  obtain ⟨x, i', h', e1, x0, x1, p0, p1⟩ := byte_at l hl 0 h (by omega) (by omega)
  obtain ⟨p, ep, hp⟩ := places_loop l hl 12 [] 0 i' h' (by omega) (by omega) rfl (by simp) p0 p1
  refine ⟨p, ?_, hp⟩
  unfold spec_DrawPlaces.f
  refine Ev.bind e ?_
  simp only [e1, Option.bind_some]
  exact ep
theorem rd_mem {l : List Int} {P : Int → Prop} (h : ∀ x ∈ l, P x) (i : Int) (h0 : 0 ≤ i) (h1 : i < (l.length : Int)) : P (rd l i) := by
  unfold rd
  rw [List.getD_eq_getElem?_getD, List.getElem?_eq_getElem (by omega)]
  exact h _ (List.getElem_mem _)

theorem down {P : Nat → Prop} (n : Nat) (h0 : P n) (hs : ∀ i, i < n → P (i + 1) → P i) : ∀ i, i ≤ n → P i := by
  intro i hi
  obtain ⟨d, hd⟩ : ∃ d, d = n - i := ⟨_, rfl⟩
  induction d generalizing i with
  | zero => have : i = n := by omega
            subst this; exact h0
  | succ d ih => exact hs i (by omega) (ih (i + 1) (by omega) (by omega))
theorem rd_nat (l : List Int) (i : Nat) (h : i < l.length) : rd l (i : Int) = l[i] := by
  unfold rd
  rw [List.getD_eq_getElem?_getD, Int.toNat_natCast, List.getElem?_eq_getElem h]; rfl
theorem cast1 (i : Nat) : ((i : Nat) : Int) + 1 = ((i + 1 : Nat) : Int) := rfl
theorem mix_set {α : Type} (l z : List α) (i : Nat) (hi : i < l.length) (hz : i < z.length) : (l.take i ++ z.drop i).set i l[i] = l.take (i + 1) ++ z.drop (i + 1) := by
  rw [List.set_append_right _ _ (by simp; omega)]
  rw [show i - (l.take i).length = 0 by simp; omega]
  rw [List.drop_eq_getElem_cons hz, List.set_cons_zero, List.take_succ_eq_append_getElem hi, List.append_assoc]; rfl
theorem mix_length {α : Type} (l z : List α) (i : Nat) (h : l.length = z.length) (hi : i ≤ l.length) : (l.take i ++ z.drop i).length = l.length := by
  simp; omega
theorem mix_end {α : Type} (l z : List α) (h : l.length = z.length) : l.take l.length ++ z.drop l.length = l := by
  rw [List.take_length, h, List.drop_length, List.append_nil]
theorem mix_zero {α : Type} (l z : List α) : l.take 0 ++ z.drop 0 = z := by simp
theorem drop_cons {α : Type} {l : List α} {i : Nat} (h : i < l.length) : l.drop i = l[i] :: l.drop (i + 1) := List.drop_eq_getElem_cons h
/-- All numbers of a list are from lo to hi. -/
def allB (lo hi : Int) (l : List Int) : Bool := l.all fun x => decide (lo ≤ x ∧ x ≤ hi)
theorem allB_cons (lo hi x : Int) (l : List Int) : allB lo hi (x :: l) = (decide (lo ≤ x ∧ x ≤ hi) && allB lo hi l) := rfl
theorem allB_iff {lo hi : Int} {l : List Int} : allB lo hi l = true ↔ ∀ x ∈ l, lo ≤ x ∧ x ≤ hi := by
  unfold allB
  rw [List.all_eq_true]
  simp only [decide_eq_true_eq]

/-- What a right picture is. -/
def PicR (w h : Int) (d : ByteArray) : Prop := (1 ≤ w ∧ w ≤ 256) ∧ (1 ≤ h ∧ h ≤ 256) ∧ (d.size : Int) = w * h
instance (w h : Int) (d : ByteArray) : Decidable (PicR w h d) := by unfold PicR; infer_instance
theorem small_mul {w h a b : Int} (h0 : 0 ≤ w) (h1 : w ≤ a) (h2 : 0 ≤ h) (h3 : h ≤ b) : 0 ≤ w * h ∧ w * h ≤ a * b := by
  refine ⟨Int.mul_nonneg h0 h2, ?_⟩
  exact Int.mul_le_mul h1 h3 h2 (by omega)
theorem ipic_some (w h : Int) (d : ByteArray) : impl_PicOk.f w h d = some (decide (PicR w h d)) := by
  unfold impl_PicOk.f PicR
  simp only [within_eq, Option.bind_some]
  by_cases c : 1 ≤ w ∧ w ≤ 256
  · by_cases c2 : 1 ≤ h ∧ h ≤ 256
    · have hm := small_mul (w := w) (h := h) (a := 256) (b := 256) (by omega) c.2 (by omega) c2.2
      simp only [c, c2, decide_true, if_true, true_and, and_self]
      rw [wrap_id (by omega) (by omega)]
      rfl
    · simp only [c, c2, decide_true, decide_false, if_true, true_and, false_and, and_self]
      rfl
  · simp only [c, decide_false, false_and]
    rfl

theorem mx0 {n hi : Int} (h : 0 ≤ hi) : 0 ≤ mx 0 (mn n hi) ∧ mx 0 (mn n hi) ≤ hi := by unfold mx mn; repeat' split <;> omega
def dotv (w h : Int) (d : ByteArray) (x y : Int) : Int := bt d (mx 0 (mn y (h - 1)) * w + mx 0 (mn x (w - 1)))
theorem spot {w h X Y : Int} (hw : 1 ≤ w) (hX : 0 ≤ X ∧ X ≤ w - 1) (hY : 0 ≤ Y ∧ Y ≤ h - 1) : 0 ≤ Y * w ∧ 0 ≤ Y * w + X ∧ Y * w + X < w * h := by
  have h1 : 0 ≤ Y * w := Int.mul_nonneg hY.1 (by omega)
  have h2 : Y * w ≤ (h - 1) * w := Int.mul_le_mul_of_nonneg_right hY.2 (by omega)
  have h3 : (h - 1) * w = w * h - w := by rw [Int.sub_mul, Int.one_mul, Int.mul_comm]
  omega
theorem dotv_range (w h : Int) (d : ByteArray) (x y : Int) : 0 ≤ dotv w h d x y ∧ dotv w h d x y ≤ 255 := bt_range _ _
theorem dot_eq (w h : Int) (d : ByteArray) (x y : Int) (hp : PicR w h d) : impl_Pic_dot.f w h d x y = some (dotv w h d x y) := by
  obtain ⟨hw, hh, hd⟩ := hp
  unfold impl_Pic_dot.f impl_Brought.f
  simp only [Option.bind_some]
  rw [wrap_id (x := h - 1) (by omega) (by omega), wrap_id (x := w - 1) (by omega) (by omega)]
  have hX := mx0 (n := x) (hi := w - 1) (by omega)
  have hY := mx0 (n := y) (hi := h - 1) (by omega)
  have hs := spot hw.1 hX hY
  have hm := small_mul (w := w) (h := h) (a := 256) (b := 256) (by omega) hw.2 (by omega) hh.2
  rw [wrap_id (x := mx 0 (mn y (h - 1)) * w) (by omega) (by omega), wrap_id (x := mx 0 (mn y (h - 1)) * w + mx 0 (mn x (w - 1))) (by omega) (by omega)]
  have hb := dotv_range w h d x y
  rw [if_pos hs.2.1, if_pos (by omega)]
  unfold dotv at hb ⊢
  rw [wrap_id (by omega) (by omega)]
theorem dotat_eq (w h : Int) (d : ByteArray) (x y : Int) : impl_DotAt.f w h d x y = some (if PicR w h d then dotv w h d x y else -1) := by
  unfold impl_DotAt.f
  rw [ipic_some, Option.bind_some]
  by_cases c : PicR w h d
  · rw [if_pos (decide_eq_true c), if_pos c, dot_eq w h d x y c]; rfl
  · rw [if_neg (by simp [c]), if_neg c]

/-- The 64 dots of a block. -/
def blockv (w h : Int) (d : ByteArray) (x y : Int) : List Int := (List.range 64).map fun i => dotv w h d (x + ((i % 8 : Nat) : Int)) (y + ((i / 8 : Nat) : Int))
theorem blockv_len (w h : Int) (d : ByteArray) (x y : Int) : (blockv w h d x y).length = 64 := by simp [blockv]
theorem blockv_get (w h : Int) (d : ByteArray) (x y : Int) (i : Nat) (hi : i < (blockv w h d x y).length) : (blockv w h d x y)[i] = dotv w h d (x + ((i % 8 : Nat) : Int)) (y + ((i / 8 : Nat) : Int)) := by simp [blockv]
theorem blockv_in (w h : Int) (d : ByteArray) (x y : Int) : ∀ v ∈ blockv w h d x y, 0 ≤ v ∧ v ≤ 255 := by
  intro v hv
  obtain ⟨i, hi, rfl⟩ := List.mem_iff_getElem.1 hv
  rw [blockv_get]; exact dotv_range ..
theorem block_inner (w h : Int) (d : ByteArray) (x y : Int) (hp : PicR w h d) (hx : -1000000 ≤ x ∧ x ≤ 1000000) (hy : -1000000 ≤ y ∧ y ≤ 1000000) (r : Nat) (hr : r < 8) (R : List Int)
    (hh : Ev (fun k => impl_Pic_block.l0 k x y ((blockv w h d x y).take (8 * (r + 1))) ((r + 1 : Nat) : Int) w h d) R) :
    ∀ c : Nat, c ≤ 8 → Ev (fun k => impl_Pic_block.l1 k x y ((blockv w h d x y).take (8 * r + c)) (r : Int) (r : Int) (c : Int) w h d) R := by
  have hl := blockv_len w h d x y
  refine down 8 ?_ ?_
  · refine Ev.step (fun k => ?_) hh
    simp only [impl_Pic_block.l1]
    rw [if_neg (by omega), wrap_id (by omega) (by omega), cast1]; rfl
  · intro c hc h'
    refine Ev.step (fun k => ?_) h'
    have e := blockv_get w h d x y (8 * r + c) (by omega)
    have m1 : (8 * r + c) % 8 = c := by omega
    have m2 : (8 * r + c) / 8 = r := by omega
    rw [m1, m2] at e
    simp only [impl_Pic_block.l1]
    rw [if_pos (by omega), wrap_id (x := x + (c : Int)) (by omega) (by omega), wrap_id (x := y + (r : Int)) (by omega) (by omega), dot_eq w h d _ _ hp, Option.bind_some, if_pos (by simp; omega), ← e, ← List.take_succ_eq_append_getElem (by omega), wrap_id (by omega) (by omega), cast1]; rfl
theorem block_ev (w h : Int) (d : ByteArray) (x y : Int) (hp : PicR w h d) (hx : -1000000 ≤ x ∧ x ≤ 1000000) (hy : -1000000 ≤ y ∧ y ≤ 1000000) : Ev (fun k => impl_Pic_block.f k w h d x y) (blockv w h d x y) := by
  have hl := blockv_len w h d x y
  have H : ∀ r : Nat, r ≤ 8 → Ev (fun k => impl_Pic_block.l0 k x y ((blockv w h d x y).take (8 * r)) (r : Int) w h d) (blockv w h d x y) := by
    refine down 8 ?_ ?_
    · refine Ev.step (f := fun _ => some (blockv w h d x y)) (fun k => ?_) (Ev.now _)
      simp only [impl_Pic_block.l0]
      rw [if_neg (by omega), List.take_of_length_le (by omega)]
    · intro r hr h'
      refine Ev.step (fun k => ?_) (block_inner w h d x y hp hx hy r hr _ h' 0 (by omega))
      simp only [impl_Pic_block.l0]
      rw [if_pos (by omega)]; rfl
  have h0 := H 0 (by omega)
  unfold impl_Pic_block.f
  refine Ev.congr (fun k => ?_) h0
  rw [if_pos (by decide)]; rfl
def BlOk (w h : Int) (d : ByteArray) (x y : Int) : Prop := PicR w h d ∧ (-1000 ≤ x ∧ x ≤ 1000) ∧ (-1000 ≤ y ∧ y ≤ 1000)
instance (w h : Int) (d : ByteArray) (x y : Int) : Decidable (BlOk w h d x y) := by unfold BlOk; infer_instance
theorem blockof_ev (w h : Int) (d : ByteArray) (x y : Int) : Ev (fun k => impl_BlockOf.f k w h d x y) (if BlOk w h d x y then blockv w h d x y else []) := by
  unfold impl_BlockOf.f
  simp only [ipic_some, within_eq, Option.bind_some]
  by_cases c1 : PicR w h d
  · by_cases c2 : -1000 ≤ x ∧ x ≤ 1000
    · by_cases c3 : -1000 ≤ y ∧ y ≤ 1000
      · rw [if_pos ⟨c1, c2, c3⟩]
        simp only [c1, c2, c3, and_self, decide_true, if_true]
        exact Ev.bind (block_ev w h d x y c1 (by omega) (by omega)) (Ev.now _)
      · rw [if_neg (fun h => c3 h.2.2)]
        simp only [c1, c2, c3, and_self, decide_true, decide_false, if_true, Bool.false_eq_true, if_false]; exact Ev.now _
    · rw [if_neg (fun h => c2 h.2.1)]
      simp only [c1, c2, decide_true, decide_false, if_true, Bool.false_eq_true, if_false]; exact Ev.now _
  · rw [if_neg (fun h => c1 h.1)]
    simp only [c1, decide_false, Bool.false_eq_true, if_false]; exact Ev.now _
theorem bl_len (w h : Int) (d : ByteArray) (x y : Int) : (if BlOk w h d x y then blockv w h d x y else []).length ≤ 64 := by
  by_cases c : BlOk w h d x y
  · rw [if_pos c, blockv_len]; omega
  · rw [if_neg c]; simp

theorem getElem_rep {n i : Nat} {v : Int} (h : i < (List.replicate n v).length) : (List.replicate n v)[i] = v := List.getElem_replicate h

/-- What a grey picture's dots are. -/
def greyd (w h : Int) : ByteArray := strOfNums (List.replicate (w * h).toNat 128)
def GOk (w h : Int) : Prop := (1 ≤ w ∧ w ≤ 256) ∧ (1 ≤ h ∧ h ≤ 256)
instance (w h : Int) : Decidable (GOk w h) := by unfold GOk; infer_instance
theorem grey_loop (w h : Int) (n : Nat) (hn : n ≤ 281474976710656) : Ev (fun k => impl_Grey.l0 k w h (List.replicate n 0) (n : Int) 0) (w, h, strOfNums (List.replicate n 128)) := by
  have H : ∀ i, i ≤ n → Ev (fun k => impl_Grey.l0 k w h ((List.replicate n 128).take i ++ (List.replicate n (0 : Int)).drop i) (n : Int) (i : Int)) (w, h, strOfNums (List.replicate n 128)) := by
    refine down n ?_ ?_
    · refine Ev.step (f := fun _ => some (w, h, strOfNums (List.replicate n 128))) (fun k => ?_) (Ev.now _)
      have := mix_end (List.replicate n (128 : Int)) (List.replicate n (0 : Int)) (by simp)
      rw [List.length_replicate] at this
      simp only [impl_Grey.l0]
      rw [if_neg (by omega), this]
    · intro i hi hh
      refine Ev.step (fun k => ?_) hh
      have hl : i < (List.replicate n (128 : Int)).length := by simp; exact hi
      have e := mix_set (List.replicate n (128 : Int)) (List.replicate n (0 : Int)) i hl (by simp; exact hi)
      rw [getElem_rep] at e
      simp only [impl_Grey.l0]
      rw [if_pos (by omega), if_pos (by omega), if_pos (by rw [mix_length _ _ _ (by simp) (by omega)]; omega), Int.toNat_natCast, e, wrap_id (by omega) (by omega), cast1]
  have h0 := H 0 (by omega)
  rw [mix_zero] at h0
  exact h0
theorem grey_ev (w h : Int) : Ev (fun k => impl_Grey.f k w h) (if GOk w h then (w, h, greyd w h) else (0, 0, ⟨#[]⟩)) := by
  unfold impl_Grey.f
  simp only [within_eq, Option.bind_some]
  by_cases c1 : 1 ≤ w ∧ w ≤ 256
  · by_cases c2 : 1 ≤ h ∧ h ≤ 256
    · rw [if_pos ⟨c1, c2⟩]
      simp only [c1, c2, and_self, decide_true, if_true, Bool.not_true]
      have hm := small_mul (w := w) (h := h) (a := 256) (b := 256) (by omega) c1.2 (by omega) c2.2
      have e := grey_loop w h (w * h).toNat (by omega)
      refine Ev.step (fun k => ?_) e
      simp only [impl_Grey.j0, Bool.false_eq_true, if_false, Option.bind_some]
      rw [wrap_id (x := w * h) (by omega) (by omega), if_pos hm.1, if_pos (by omega), List.length_replicate]
    · rw [if_neg (fun h => c2 h.2)]
      simp only [c1, c2, and_self, decide_true, decide_false, if_true, Bool.not_false]
      exact Ev.step (f := fun _ => some (0, 0, ⟨#[]⟩)) (fun k => by simp only [impl_Grey.j0]; rfl) (Ev.now _)
  · rw [if_neg (fun h => c1 h.1)]
    simp only [c1, decide_false, Bool.false_eq_true, if_false]
    exact Ev.step (f := fun _ => some (0, 0, ⟨#[]⟩)) (fun k => by simp only [impl_Grey.j0]; rfl) (Ev.now _)

theorem bt_strOfNums (l : List Int) (i : Nat) (h : i < l.length) (h0 : 0 ≤ l[i]) (h1 : l[i] ≤ 255) : bt (strOfNums l) (i : Int) = l[i] := by
  have hs : i < (strOfNums l).size := by rw [strOfNums_size]; exact h
  have h2 := bt_at (strOfNums l) (i : Int) (by rw [Int.toNat_natCast]; exact hs)
  rw [← h2]
  simp only [Int.toNat_natCast]
  have e : (strOfNums l)[i] = UInt8.ofNat (l[i]).toNat := by
    have : (strOfNums l)[i] = (strOfNums l).data.toList[i]'(by rw [data_length]; exact hs) := by rfl
    rw [this]
    simp [strOfNums_data]
  rw [e]
  simp
  omega
theorem grey_dot (w h : Int) (hg : GOk w h) (x y : Int) : dotv w h (greyd w h) x y = 128 := by
  have hX := mx0 (n := x) (hi := w - 1) (by have := hg.1; omega)
  have hY := mx0 (n := y) (hi := h - 1) (by have := hg.2; omega)
  have hs := spot (w := w) (h := h) (by have := hg.1; omega) hX hY
  unfold dotv greyd
  obtain ⟨i, hi⟩ : ∃ i : Nat, (i : Int) = mx 0 (mn y (h - 1)) * w + mx 0 (mn x (w - 1)) := ⟨(mx 0 (mn y (h - 1)) * w + mx 0 (mn x (w - 1))).toNat, by omega⟩
  rw [← hi]
  have hl : i < (List.replicate (w * h).toNat (128 : Int)).length := by rw [List.length_replicate]; omega
  rw [bt_strOfNums _ i hl (by rw [List.getElem_replicate]; omega) (by rw [List.getElem_replicate]; omega), List.getElem_replicate]
theorem grey_right (w h : Int) (hg : GOk w h) : PicR w h (greyd w h) := by
  have hm := small_mul (w := w) (h := h) (a := 256) (b := 256) (by have := hg.1; omega) hg.1.2 (by have := hg.2; omega) hg.2.2
  refine ⟨hg.1, hg.2, ?_⟩
  unfold greyd
  rw [strOfNums_size, List.length_replicate]
  omega
theorem greys_loop (l : List Int) (hl : l.length = 64) (h : ∀ x ∈ l, x = 128) : ∀ i : Nat, i ≤ 64 → Ev (fun k => laws_FnGreys.l0 k l (i : Int)) true := by
  refine down 64 ?_ ?_
  · exact Ev.step (f := fun _ => some true) (fun k => by simp only [laws_FnGreys.l0]; rw [if_neg (by omega)]) (Ev.now _)
  · intro i hi hh
    refine Ev.step (fun k => ?_) hh
    simp only [laws_FnGreys.l0]
    rw [if_pos (by omega), if_pos (by omega), if_pos (by omega), rd_nat l i (by omega), if_pos (h _ (List.getElem_mem _)), wrap_id (by omega) (by omega), cast1]
theorem tmod_at {x : Int} (n : Int) (h : 0 ≤ x) (hn : 0 < n) : 0 ≤ Int.tmod x n ∧ Int.tmod x n < n := by
  rw [Int.tmod_eq_emod_of_nonneg h]; exact ⟨Int.emod_nonneg _ (by omega), Int.emod_lt_of_pos _ hn⟩
theorem FnGreys : laws_FnGreys.Pure := by
  intro l _ hl _
  rw [Nat.mul_one] at hl
  refine Ev.rounds ?_
  unfold laws_FnGreys.f laws_big.f
  simp only [Option.bind_some]
  by_cases c : (l.length : Int) > 1048576
  · simp only [c, decide_true, if_true]; exact Ev.now _
  · simp only [c, decide_false, Bool.false_eq_true, if_false]
    obtain ⟨p, ep, lp, hp⟩ := places_ev l hl
    have q : ∀ i : Int, 0 ≤ i → i < 12 → 0 ≤ rd p i ∧ rd p i < 10000 := fun i h0 h1 => rd_mem hp i h0 (by omega)
    have m0 := tmod_at 40 (q 0 (by omega) (by omega)).1 (by omega)
    have m1 := tmod_at 40 (q 1 (by omega) (by omega)).1 (by omega)
    have m2 := tmod_at 100 (q 2 (by omega) (by omega)).1 (by omega)
    have m3 := tmod_at 100 (q 3 (by omega) (by omega)).1 (by omega)
    have m4 := q 4 (by omega) (by omega)
    have m5 := q 5 (by omega) (by omega)
    refine Ev.bind ep ?_
    simp only [lp, show (0 : Int) < ((12 : Nat) : Int) from by decide, show (1 : Int) < ((12 : Nat) : Int) from by decide, show (2 : Int) < ((12 : Nat) : Int) from by decide, show (3 : Int) < ((12 : Nat) : Int) from by decide, show (4 : Int) < ((12 : Nat) : Int) from by decide, show (5 : Int) < ((12 : Nat) : Int) from by decide, if_true]
    rw [wrap_id (x := 1 + Int.tmod (rd p 0) 40) (by omega) (by omega), wrap_id (x := 1 + Int.tmod (rd p 1) 40) (by omega) (by omega), wrap_id (x := Int.tmod (rd p 2) 100 - 50) (by omega) (by omega), wrap_id (x := Int.tmod (rd p 3) 100 - 50) (by omega) (by omega), wrap_id (x := rd p 4 - 5000) (by omega) (by omega), wrap_id (x := rd p 5 - 5000) (by omega) (by omega)]
    have hg : GOk (1 + Int.tmod (rd p 0) 40) (1 + Int.tmod (rd p 1) 40) := ⟨by omega, by omega⟩
    generalize 1 + Int.tmod (rd p 0) 40 = w at hg ⊢
    generalize 1 + Int.tmod (rd p 1) 40 = h at hg ⊢
    have hG := grey_ev w h
    rw [if_pos hg] at hG
    have hp := grey_right w h hg
    have hB := blockof_ev w h (greyd w h) (Int.tmod (rd p 2) 100 - 50) (Int.tmod (rd p 3) 100 - 50)
    rw [if_pos ⟨hp, by omega, by omega⟩] at hB
    have hb8 : ∀ v ∈ blockv w h (greyd w h) (Int.tmod (rd p 2) 100 - 50) (Int.tmod (rd p 3) 100 - 50), v = 128 := by
      intro v hv
      obtain ⟨i, hi, rfl⟩ := List.mem_iff_getElem.1 hv
      rw [blockv_get, grey_dot w h hg]
    have hb := blockv_len w h (greyd w h) (Int.tmod (rd p 2) 100 - 50) (Int.tmod (rd p 3) 100 - 50)
    generalize blockv w h (greyd w h) (Int.tmod (rd p 2) 100 - 50) (Int.tmod (rd p 3) 100 - 50) = b at hB hb8 hb
    refine Ev.bind hG ?_
    simp only []
    refine Ev.bind hB ?_
    simp only [ipic_some, dotat_eq, Option.bind_some, hp, decide_true, if_true, grey_dot w h hg, hb, show (((64 : Nat) : Int) != 64) = false from by decide]
    exact Ev.step (fun k => by simp only [laws_FnGreys.j0, Bool.false_eq_true, if_false]; rfl) (greys_loop b hb hb8 0 (by omega))

end Go.Proofs.Ytokaccgaendhmaa.Pure
