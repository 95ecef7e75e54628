/- The program's BlockOf answers what the reference's BlockOf answers, for all pictures and places, in new memory. No condition beside the row's own. -/
import Derived.Test.YtokaccgaendhmaaQFnExactBlockOfx3
namespace Go.Proofs.Ytokaccgaendhmaa.Pure
open Go.RowKit Go.Proofs.Ytokaccgaendhmaa.QFnExactBlockOf Go.Proofs.YtokaccgaendhmaaW.PrintWords Go.Proofs.YtokaccgaendhmaaW.PrintLast Go.Proofs.YtokaccgaendhmaaW.PrintMore
set_option linter.unusedVariables false
set_option linter.unusedSimpArgs false

theorem wrap_id {x : Int} (h0 : -9223372036854775808 ≤ x) (h1 : x ≤ 9223372036854775807) : wrap64 x = x := by
  unfold wrap64
  omega
theorem wf64 {n : Int} (h : (Lit.int .i64 n).wf = true) : -9223372036854775808 ≤ n ∧ n ≤ 9223372036854775807 := by
  simp [Lit.wf, IntKind.min, IntKind.max, IntKind.signed, IntKind.bits] at h
  omega
theorem wfu8 {n : Int} (h : (Lit.int .u8 n).wf = true) : 0 ≤ n ∧ n ≤ 255 := by
  simp [Lit.wf, IntKind.min, IntKind.max, IntKind.signed, IntKind.bits] at h
  omega
theorem within_eq (a b c : Int) : impl_within.f a b c = some (decide (b ≤ a ∧ a ≤ c)) := by
  unfold impl_within.f
  by_cases h : a ≥ b
  · rw [if_pos h]; congr 1; rw [decide_eq_decide]; omega
  · rw [if_neg h]; congr 1; symm; rw [decide_eq_false_iff_not]; omega
theorem in_eq (a b c : Int) : spec_l01In.f a b c = some (decide (b ≤ a ∧ a ≤ c)) := by
  unfold spec_l01In.f
  by_cases h : a ≥ b
  · rw [if_pos h]; congr 1; rw [decide_eq_decide]; omega
  · rw [if_neg h]; congr 1; symm; rw [decide_eq_false_iff_not]; omega

theorem down {P : Nat → Prop} (n : Nat) (h0 : P n) (hs : ∀ i, i < n → P (i + 1) → P i) : ∀ i, i ≤ n → P i := by
  intro i hi
  obtain ⟨d, hd⟩ : ∃ d, d = n - i := ⟨_, rfl⟩
  induction d generalizing i with
  | zero => have : i = n := by omega
            subst this; exact h0
  | succ d ih => exact hs i (by omega) (ih (i + 1) (by omega) (by omega))
theorem rd_nat (l : List Int) (i : Nat) (h : i < l.length) : rd l (i : Int) = l[i] := by
  unfold rd
  rw [List.getD_eq_getElem?_getD, Int.toNat_natCast, List.getElem?_eq_getElem h]; rfl
theorem cast1 (i : Nat) : ((i : Nat) : Int) + 1 = ((i + 1 : Nat) : Int) := rfl
theorem mix_set {α : Type} (l z : List α) (i : Nat) (hi : i < l.length) (hz : i < z.length) : (l.take i ++ z.drop i).set i l[i] = l.take (i + 1) ++ z.drop (i + 1) := by
  rw [List.set_append_right _ _ (by simp; omega)]
  rw [show i - (l.take i).length = 0 by simp; omega]
  rw [List.drop_eq_getElem_cons hz, List.set_cons_zero, List.take_succ_eq_append_getElem hi, List.append_assoc]; rfl
theorem mix_length {α : Type} (l z : List α) (i : Nat) (h : l.length = z.length) (hi : i ≤ l.length) : (l.take i ++ z.drop i).length = l.length := by
  simp; omega
theorem mix_end {α : Type} (l z : List α) (h : l.length = z.length) : l.take l.length ++ z.drop l.length = l := by
  rw [List.take_length, h, List.drop_length, List.append_nil]
theorem mix_zero {α : Type} (l z : List α) : l.take 0 ++ z.drop 0 = z := by simp
theorem drop_cons {α : Type} {l : List α} {i : Nat} (h : i < l.length) : l.drop i = l[i] :: l.drop (i + 1) := List.drop_eq_getElem_cons h
theorem eqInts_ev (a b : List Int) (ha : a.length ≤ 17592186043904) : Ev (fun k => laws_eqIntS.f k a b) (decide (a = b)) := by
  by_cases hl : a.length = b.length
  · have H : ∀ i, i ≤ a.length → Ev (fun k => laws_eqIntS.l0 k a b (i : Int)) (decide (a.drop i = b.drop i)) := by
      refine down a.length ?_ ?_
      · refine Ev.step (f := fun _ => some true) (fun k => ?_) ?_
        · simp only [laws_eqIntS.l0]
          rw [if_neg (by omega)]
        · rw [show decide (a.drop a.length = b.drop a.length) = true by rw [hl]; simp [← hl]]; exact Ev.now _
      · intro i hi h
        have hb : i < b.length := by omega
        by_cases c : a[i] = b[i]
        · have e : decide (a.drop i = b.drop i) = decide (a.drop (i + 1) = b.drop (i + 1)) := by
            rw [decide_eq_decide, drop_cons hi, drop_cons hb, c, List.cons.injEq]; simp only [true_and]
          rw [e]
          refine Ev.step (fun k => ?_) h
          simp only [laws_eqIntS.l0]
          rw [if_pos (by omega), if_pos (by omega), if_pos (by omega), rd_nat a i hi, rd_nat b i hb, if_pos c, wrap_id (by omega) (by omega), cast1]
        · have e : decide (a.drop i = b.drop i) = false := by
            rw [decide_eq_false_iff_not, drop_cons hi, drop_cons hb, List.cons.injEq]; exact fun h => c h.1
          rw [e]
          refine Ev.step (f := fun _ => some false) (fun k => ?_) (Ev.now _)
          simp only [laws_eqIntS.l0]
          rw [if_pos (by omega), if_pos (by omega), if_pos (by omega), rd_nat a i hi, rd_nat b i hb, if_neg c]
    have h0 := H 0 (by omega)
    unfold laws_eqIntS.f
    refine Ev.congr (fun k => ?_) h0
    rw [if_pos (by omega)]; rfl
  · unfold laws_eqIntS.f
    rw [show decide (a = b) = false from decide_eq_false (fun h => hl (by rw [h]))]
    refine Ev.congr (f := fun _ => some false) (fun k => ?_) (Ev.now _)
    rw [if_neg (by omega)]
/-- All numbers of a list are from lo to hi. -/
def allB (lo hi : Int) (l : List Int) : Bool := l.all fun x => decide (lo ≤ x ∧ x ≤ hi)
theorem allB_cons (lo hi x : Int) (l : List Int) : allB lo hi (x :: l) = (decide (lo ≤ x ∧ x ≤ hi) && allB lo hi l) := rfl
theorem allB_iff {lo hi : Int} {l : List Int} : allB lo hi l = true ↔ ∀ x ∈ l, lo ≤ x ∧ x ≤ hi := by
  unfold allB
  rw [List.all_eq_true]
  simp only [decide_eq_true_eq]

theorem sz_pic (w h : Int) (d : ByteArray) (left : Int) (hd : d.size ≤ maxLen) (h0 : 0 ≤ left) (h1 : left ≤ 1048576) : ∃ r, laws_szPic.f w h d left = some r ∧ (r = -1 ∨ (r = left - (d.size : Int) ∧ 0 ≤ r)) := by
  unfold maxLen at hd
  unfold laws_szPic.f
  rw [wrap_id (x := left - (d.size : Int)) (by omega) (by omega)]
  by_cases c : left - (d.size : Int) < 0
  · rw [if_pos c]; exact ⟨_, rfl, .inl rfl⟩
  · rw [if_neg c]; exact ⟨_, rfl, .inr ⟨rfl, by omega⟩⟩
theorem pic_same (w h : Int) (d : ByteArray) : impl_PicOk.f w h d = spec_PicOk.f w h d := by
  unfold impl_PicOk.f spec_PicOk.f
  simp only [within_eq, in_eq]
/-- What a right picture is. -/
def PicR (w h : Int) (d : ByteArray) : Prop := (1 ≤ w ∧ w ≤ 256) ∧ (1 ≤ h ∧ h ≤ 256) ∧ (d.size : Int) = w * h
instance (w h : Int) (d : ByteArray) : Decidable (PicR w h d) := by unfold PicR; infer_instance
theorem small_mul {w h a b : Int} (h0 : 0 ≤ w) (h1 : w ≤ a) (h2 : 0 ≤ h) (h3 : h ≤ b) : 0 ≤ w * h ∧ w * h ≤ a * b := by
  refine ⟨Int.mul_nonneg h0 h2, ?_⟩
  exact Int.mul_le_mul h1 h3 h2 (by omega)
theorem pic_some (w h : Int) (d : ByteArray) : spec_PicOk.f w h d = some (decide (PicR w h d)) := by
  unfold spec_PicOk.f PicR
  simp only [in_eq, Option.bind_some]
  by_cases c : 1 ≤ w ∧ w ≤ 256
  · by_cases c2 : 1 ≤ h ∧ h ≤ 256
    · have hm := small_mul (w := w) (h := h) (a := 256) (b := 256) (by omega) c.2 (by omega) c2.2
      simp only [c, c2, decide_true, if_true, true_and, and_self]
      rw [wrap_id (by omega) (by omega)]
      rfl
    · simp only [c, c2, decide_true, decide_false, if_true, true_and, false_and, and_self]
      rfl
  · simp only [c, decide_false, false_and]
    rfl
theorem ipic_some (w h : Int) (d : ByteArray) : impl_PicOk.f w h d = some (decide (PicR w h d)) := by
  unfold impl_PicOk.f PicR
  simp only [within_eq, Option.bind_some]
  by_cases c : 1 ≤ w ∧ w ≤ 256
  · by_cases c2 : 1 ≤ h ∧ h ≤ 256
    · have hm := small_mul (w := w) (h := h) (a := 256) (b := 256) (by omega) c.2 (by omega) c2.2
      simp only [c, c2, decide_true, if_true, true_and, and_self]
      rw [wrap_id (by omega) (by omega)]
      rfl
    · simp only [c, c2, decide_true, decide_false, if_true, true_and, false_and, and_self]
      rfl
  · simp only [c, decide_false, false_and]
    rfl

theorem brought_ev (n lo hi : Int) : Ev (fun k => spec_Brought.f k n lo hi) (mx lo (mn n hi)) := by
  unfold spec_Brought.f
  unfold mx mn
  by_cases c : hi < lo
  · refine Ev.congr (fun k => by rw [if_pos c]) (Ev.step (f := fun _ => some lo) (fun k => by simp only [spec_Brought.j0]; rfl) ?_)
    have e : (if lo < (if hi < n then hi else n) then (if hi < n then hi else n) else lo) = lo := by repeat' split <;> omega
    rw [e]; exact Ev.now _
  · by_cases c2 : n < lo
    · refine Ev.congr (fun k => by rw [if_neg c, show decide (n < lo) = true from decide_eq_true c2]) (Ev.step (f := fun _ => some lo) (fun k => by simp only [spec_Brought.j0]; rfl) ?_)
      have e : (if lo < (if hi < n then hi else n) then (if hi < n then hi else n) else lo) = lo := by repeat' split <;> omega
      rw [e]; exact Ev.now _
    · refine Ev.congr (fun k => by rw [if_neg c, show decide (n < lo) = false from decide_eq_false c2]) (Ev.step (f := fun _ => if n > hi then some hi else some n) (fun k => by simp only [spec_Brought.j0]; rfl) ?_)
      by_cases c3 : n > hi
      · have e : (if lo < (if hi < n then hi else n) then (if hi < n then hi else n) else lo) = hi := by repeat' split <;> omega
        rw [e]; simp only [c3, if_true]; exact Ev.now _
      · have e : (if lo < (if hi < n then hi else n) then (if hi < n then hi else n) else lo) = n := by repeat' split <;> omega
        rw [e]; simp only [c3, if_false]; exact Ev.now _
theorem mx0 {n hi : Int} (h : 0 ≤ hi) : 0 ≤ mx 0 (mn n hi) ∧ mx 0 (mn n hi) ≤ hi := by unfold mx mn; repeat' split <;> omega
def dotv (w h : Int) (d : ByteArray) (x y : Int) : Int := bt d (mx 0 (mn y (h - 1)) * w + mx 0 (mn x (w - 1)))
theorem spot {w h X Y : Int} (hw : 1 ≤ w) (hX : 0 ≤ X ∧ X ≤ w - 1) (hY : 0 ≤ Y ∧ Y ≤ h - 1) : 0 ≤ Y * w ∧ 0 ≤ Y * w + X ∧ Y * w + X < w * h := by
  have h1 : 0 ≤ Y * w := Int.mul_nonneg hY.1 (by omega)
  have h2 : Y * w ≤ (h - 1) * w := Int.mul_le_mul_of_nonneg_right hY.2 (by omega)
  have h3 : (h - 1) * w = w * h - w := by rw [Int.sub_mul, Int.one_mul, Int.mul_comm]
  omega
theorem dotv_range (w h : Int) (d : ByteArray) (x y : Int) : 0 ≤ dotv w h d x y ∧ dotv w h d x y ≤ 255 := bt_range _ _
theorem dot_eq (w h : Int) (d : ByteArray) (x y : Int) (hp : PicR w h d) : impl_Pic_dot.f w h d x y = some (dotv w h d x y) := by
  obtain ⟨hw, hh, hd⟩ := hp
  unfold impl_Pic_dot.f impl_Brought.f
  simp only [Option.bind_some]
  rw [wrap_id (x := h - 1) (by omega) (by omega), wrap_id (x := w - 1) (by omega) (by omega)]
  have hX := mx0 (n := x) (hi := w - 1) (by omega)
  have hY := mx0 (n := y) (hi := h - 1) (by omega)
  have hs := spot hw.1 hX hY
  have hm := small_mul (w := w) (h := h) (a := 256) (b := 256) (by omega) hw.2 (by omega) hh.2
  rw [wrap_id (x := mx 0 (mn y (h - 1)) * w) (by omega) (by omega), wrap_id (x := mx 0 (mn y (h - 1)) * w + mx 0 (mn x (w - 1))) (by omega) (by omega)]
  have hb := dotv_range w h d x y
  rw [if_pos hs.2.1, if_pos (by omega)]
  unfold dotv at hb ⊢
  rw [wrap_id (by omega) (by omega)]
theorem sdot_ev (w h : Int) (d : ByteArray) (x y : Int) : Ev (fun k => spec_DotAt.f k w h d x y) (if PicR w h d then dotv w h d x y else -1) := by
  unfold spec_DotAt.f
  rw [pic_some]
  simp only [Option.bind_some]
  by_cases c : PicR w h d
  · simp only [c, decide_true, if_true]
    obtain ⟨hw, hh, hd⟩ := c
    rw [wrap_id (x := h - 1) (by omega) (by omega), wrap_id (x := w - 1) (by omega) (by omega)]
    refine Ev.bind (brought_ev y 0 (h - 1)) (Ev.bind (brought_ev x 0 (w - 1)) ?_)
    have hX := mx0 (n := x) (hi := w - 1) (by omega)
    have hY := mx0 (n := y) (hi := h - 1) (by omega)
    have hs := spot hw.1 hX hY
    have hm := small_mul (w := w) (h := h) (a := 256) (b := 256) (by omega) hw.2 (by omega) hh.2
    rw [wrap_id (x := mx 0 (mn y (h - 1)) * w) (by omega) (by omega), wrap_id (x := mx 0 (mn y (h - 1)) * w + mx 0 (mn x (w - 1))) (by omega) (by omega)]
    have hb := dotv_range w h d x y
    rw [if_pos hs.2.1, if_pos (by omega)]
    unfold dotv at hb ⊢
    rw [wrap_id (by omega) (by omega)]
    exact Ev.now _
  · simp only [c, decide_false, Bool.false_eq_true, if_false]
    exact Ev.now _

/-- The 64 dots of a block. -/
def blockv (w h : Int) (d : ByteArray) (x y : Int) : List Int := (List.range 64).map fun i => dotv w h d (x + ((i % 8 : Nat) : Int)) (y + ((i / 8 : Nat) : Int))
theorem blockv_len (w h : Int) (d : ByteArray) (x y : Int) : (blockv w h d x y).length = 64 := by simp [blockv]
theorem blockv_get (w h : Int) (d : ByteArray) (x y : Int) (i : Nat) (hi : i < (blockv w h d x y).length) : (blockv w h d x y)[i] = dotv w h d (x + ((i % 8 : Nat) : Int)) (y + ((i / 8 : Nat) : Int)) := by simp [blockv]
theorem blockv_in (w h : Int) (d : ByteArray) (x y : Int) : ∀ v ∈ blockv w h d x y, 0 ≤ v ∧ v ≤ 255 := by
  intro v hv
  obtain ⟨i, hi, rfl⟩ := List.mem_iff_getElem.1 hv
  rw [blockv_get]; exact dotv_range ..
theorem block_inner (w h : Int) (d : ByteArray) (x y : Int) (hp : PicR w h d) (hx : -1000000 ≤ x ∧ x ≤ 1000000) (hy : -1000000 ≤ y ∧ y ≤ 1000000) (r : Nat) (hr : r < 8) (R : List Int)
    (hh : Ev (fun k => impl_Pic_block.l0 k x y ((blockv w h d x y).take (8 * (r + 1))) ((r + 1 : Nat) : Int) w h d) R) :
    ∀ c : Nat, c ≤ 8 → Ev (fun k => impl_Pic_block.l1 k x y ((blockv w h d x y).take (8 * r + c)) (r : Int) (r : Int) (c : Int) w h d) R := by
  have hl := blockv_len w h d x y
  refine down 8 ?_ ?_
  · refine Ev.step (fun k => ?_) hh
    simp only [impl_Pic_block.l1]
    rw [if_neg (by omega), wrap_id (by omega) (by omega), cast1]; rfl
  · intro c hc h'
    refine Ev.step (fun k => ?_) h'
    have e := blockv_get w h d x y (8 * r + c) (by omega)
    have m1 : (8 * r + c) % 8 = c := by omega
    have m2 : (8 * r + c) / 8 = r := by omega
    rw [m1, m2] at e
    simp only [impl_Pic_block.l1]
    rw [if_pos (by omega), wrap_id (x := x + (c : Int)) (by omega) (by omega), wrap_id (x := y + (r : Int)) (by omega) (by omega), dot_eq w h d _ _ hp, Option.bind_some, if_pos (by simp; omega), ← e, ← List.take_succ_eq_append_getElem (by omega), wrap_id (by omega) (by omega), cast1]; rfl
theorem block_ev (w h : Int) (d : ByteArray) (x y : Int) (hp : PicR w h d) (hx : -1000000 ≤ x ∧ x ≤ 1000000) (hy : -1000000 ≤ y ∧ y ≤ 1000000) : Ev (fun k => impl_Pic_block.f k w h d x y) (blockv w h d x y) := by
  have hl := blockv_len w h d x y
  have H : ∀ r : Nat, r ≤ 8 → Ev (fun k => impl_Pic_block.l0 k x y ((blockv w h d x y).take (8 * r)) (r : Int) w h d) (blockv w h d x y) := by
    refine down 8 ?_ ?_
    · refine Ev.step (f := fun _ => some (blockv w h d x y)) (fun k => ?_) (Ev.now _)
      simp only [impl_Pic_block.l0]
      rw [if_neg (by omega), List.take_of_length_le (by omega)]
    · intro r hr h'
      refine Ev.step (fun k => ?_) (block_inner w h d x y hp hx hy r hr _ h' 0 (by omega))
      simp only [impl_Pic_block.l0]
      rw [if_pos (by omega)]; rfl
  have h0 := H 0 (by omega)
  unfold impl_Pic_block.f
  refine Ev.congr (fun k => ?_) h0
  rw [if_pos (by decide)]; rfl
def BlOk (w h : Int) (d : ByteArray) (x y : Int) : Prop := PicR w h d ∧ (-1000 ≤ x ∧ x ≤ 1000) ∧ (-1000 ≤ y ∧ y ≤ 1000)
instance (w h : Int) (d : ByteArray) (x y : Int) : Decidable (BlOk w h d x y) := by unfold BlOk; infer_instance
theorem blockof_ev (w h : Int) (d : ByteArray) (x y : Int) : Ev (fun k => impl_BlockOf.f k w h d x y) (if BlOk w h d x y then blockv w h d x y else []) := by
  unfold impl_BlockOf.f
  simp only [ipic_some, within_eq, Option.bind_some]
  by_cases c1 : PicR w h d
  · by_cases c2 : -1000 ≤ x ∧ x ≤ 1000
    · by_cases c3 : -1000 ≤ y ∧ y ≤ 1000
      · rw [if_pos ⟨c1, c2, c3⟩]
        simp only [c1, c2, c3, and_self, decide_true, if_true]
        exact Ev.bind (block_ev w h d x y c1 (by omega) (by omega)) (Ev.now _)
      · rw [if_neg (fun h => c3 h.2.2)]
        simp only [c1, c2, c3, and_self, decide_true, decide_false, if_true, Bool.false_eq_true, if_false]; exact Ev.now _
    · rw [if_neg (fun h => c2 h.2.1)]
      simp only [c1, c2, decide_true, decide_false, if_true, Bool.false_eq_true, if_false]; exact Ev.now _
  · rw [if_neg (fun h => c1 h.1)]
    simp only [c1, decide_false, Bool.false_eq_true, if_false]; exact Ev.now _
theorem sblock_loop (w h : Int) (d : ByteArray) (x y : Int) (hp : PicR w h d) (hx : -1000000 ≤ x ∧ x ≤ 1000000) (hy : -1000000 ≤ y ∧ y ≤ 1000000) :
    ∀ i : Nat, i ≤ 64 → Ev (fun k => spec_BlockOf.l0 k x y ((blockv w h d x y).take i) (i : Int) w h d) (blockv w h d x y) := by
  have hl := blockv_len w h d x y
  refine down 64 ?_ ?_
  · refine Ev.step (f := fun _ => some (blockv w h d x y)) (fun k => ?_) (Ev.now _)
    simp only [spec_BlockOf.l0]
    rw [if_neg (by omega), List.take_of_length_le (by omega)]
  · intro i hi h'
    have e := blockv_get w h d x y i (by omega)
    have m1 : Int.tmod (i : Int) 8 = ((i % 8 : Nat) : Int) := by rw [Int.tmod_eq_emod_of_nonneg (by omega)]; omega
    have m2 : Int.tdiv (i : Int) 8 = ((i / 8 : Nat) : Int) := by rw [Int.tdiv_eq_ediv_of_nonneg (by omega)]; omega
    have hs := sdot_ev w h d (x + ((i % 8 : Nat) : Int)) (y + ((i / 8 : Nat) : Int))
    rw [if_pos hp, ← e] at hs
    refine Ev.step (f := fun k => (spec_DotAt.f k w h d (x + ((i % 8 : Nat) : Int)) (y + ((i / 8 : Nat) : Int))).bind fun t => (if ((blockv w h d x y).take i).length < 17592186044416 then (spec_BlockOf.l0 k x y ((blockv w h d x y).take i ++ [t]) ((i + 1 : Nat) : Int) w h d) else (none))) (fun k => ?_) (Ev.bind hs ?_)
    · simp only [spec_BlockOf.l0]
      rw [if_pos (by omega), m1, m2, wrap_id (x := ((i / 8 : Nat) : Int)) (by omega) (by omega), wrap_id (x := x + ((i % 8 : Nat) : Int)) (by omega) (by omega), wrap_id (x := y + ((i / 8 : Nat) : Int)) (by omega) (by omega), wrap_id (x := (i : Int) + 1) (by omega) (by omega), cast1]
    · refine Ev.congr (fun k => ?_) h'
      rw [if_pos (by simp; omega), ← List.take_succ_eq_append_getElem (by omega)]
theorem sblockof_ev (w h : Int) (d : ByteArray) (x y : Int) : Ev (fun k => spec_BlockOf.f k w h d x y) (if BlOk w h d x y then blockv w h d x y else []) := by
  unfold spec_BlockOf.f
  simp only [pic_some, in_eq, Option.bind_some]
  have hbad : Ev (fun k => spec_BlockOf.j0 k x y [] true w h d) [] := Ev.step (f := fun _ => some []) (fun k => by simp only [spec_BlockOf.j0]; rfl) (Ev.now _)
  by_cases c1 : PicR w h d
  · by_cases c2 : -1000 ≤ x ∧ x ≤ 1000
    · by_cases c3 : -1000 ≤ y ∧ y ≤ 1000
      · rw [if_pos ⟨c1, c2, c3⟩]
        simp only [c1, c2, c3, and_self, decide_true, if_true, Bool.not_true]
        exact Ev.step (fun k => by simp only [spec_BlockOf.j0, Bool.false_eq_true, if_false]; rfl) (sblock_loop w h d x y c1 (by omega) (by omega) 0 (by omega))
      · rw [if_neg (fun h => c3 h.2.2)]
        simp only [c1, c2, c3, and_self, decide_true, decide_false, if_true, Bool.not_false]; exact hbad
    · rw [if_neg (fun h => c2 h.2.1)]
      simp only [c1, c2, decide_true, decide_false, if_true, Bool.false_eq_true, if_false]; exact hbad
  · rw [if_neg (fun h => c1 h.1)]
    simp only [c1, decide_false, Bool.false_eq_true, if_false]; exact hbad
theorem bl_len (w h : Int) (d : ByteArray) (x y : Int) : (if BlOk w h d x y then blockv w h d x y else []).length ≤ 64 := by
  by_cases c : BlOk w h d x y
  · rw [if_pos c, blockv_len]; omega
  · rw [if_neg c]; simp

/-- The numbers a, a + 1, .., n of them. -/
def marks : Nat → Int → List Int
  | 0, _ => []
  | n + 1, a => a :: marks n (a + 1)
theorem marks_length (n : Nat) : ∀ a, (marks n a).length = n := by
  induction n with
  | zero => intro a; rfl
  | succ n ih => intro a; simp [marks, ih]
theorem marks_get (n : Nat) : ∀ (a : Int) (i : Nat) (h : i < (marks n a).length), (marks n a)[i] = a + i := by
  induction n with
  | zero => intro a i h; simp [marks] at h
  | succ n ih =>
    intro a i h
    cases i with
    | zero => simp [marks]
    | succ i =>
      have := ih (a + 1) i (by simp [marks] at h; exact h)
      simp only [marks, List.getElem_cons_succ]
      rw [this]
      have e : ((i + 1 : Nat) : Int) = (i : Int) + 1 := rfl
      rw [e]; omega
theorem mark_ev (l : List Int) (a : Int) (hl : l.length ≤ 17592186043904) (h0 : 0 ≤ a) (h1 : a ≤ 1000000000000) : Ev (fun k => laws_markIntS.f k l a) (a + (l.length : Int), marks l.length a) := by
  have hm := marks_length l.length a
  have H : ∀ i, i ≤ l.length → Ev (fun k => laws_markIntS.l0 k ((marks l.length a).take i ++ l.drop i) (a + (i : Int)) (i : Int)) (a + (l.length : Int), marks l.length a) := by
    refine down l.length ?_ ?_
    · refine Ev.step (f := fun _ => some (a + (l.length : Int), marks l.length a)) (fun k => ?_) (Ev.now _)
      have e := mix_end (marks l.length a) l hm
      rw [hm] at e
      simp only [laws_markIntS.l0]
      rw [e, if_neg (by rw [hm]; omega)]
    · intro i hi h
      refine Ev.step (fun k => ?_) h
      have e := mix_set (marks l.length a) l i (by omega) hi
      rw [marks_get] at e
      simp only [laws_markIntS.l0]
      rw [if_pos (by rw [mix_length _ _ _ hm (by omega)]; omega), if_pos (by omega), Int.toNat_natCast, e, wrap_id (x := a + (i : Int) + 1) (by omega) (by omega), wrap_id (x := (i : Int) + 1) (by omega) (by omega), Int.add_assoc, cast1]
  have h := H 0 (by omega)
  rw [mix_zero] at h
  simpa [laws_markIntS.f] using h
theorem held_ev (n : Nat) (a : Int) (hl : n ≤ 17592186043904) (h0 : 0 ≤ a) (h1 : a ≤ 1000000000000) : Ev (fun k => laws_heldIntS.f k (marks n a) a) (a + (n : Int)) := by
  have hm := marks_length n a
  have H : ∀ i, i ≤ n → Ev (fun k => laws_heldIntS.l0 k (marks n a) (a + (i : Int)) (i : Int)) (a + (n : Int)) := by
    refine down n ?_ ?_
    · refine Ev.step (f := fun _ => some (a + (n : Int))) (fun k => ?_) (Ev.now _)
      simp only [laws_heldIntS.l0]
      rw [hm, if_neg (by omega)]
    · intro i hi h
      refine Ev.step (fun k => ?_) h
      simp only [laws_heldIntS.l0]
      rw [if_pos (by omega), if_pos (by omega), rd_nat _ i (by omega), marks_get, if_pos rfl, wrap_id (x := a + (i : Int) + 1) (by omega) (by omega), wrap_id (x := (i : Int) + 1) (by omega) (by omega), Int.add_assoc, cast1]
  have h := H 0 (by omega)
  simpa [laws_heldIntS.f] using h
theorem eqSelf_ev (a : List Int) (ha : a.length ≤ 17592186043904) : Ev (fun k => laws_eqIntS.f k a a) true := by
  have h := eqInts_ev a a ha
  rwa [decide_eq_true rfl] at h

theorem FnExactBlockOf : laws_FnExactBlockOf.Pure := by
  intro w h d x y _ _ hd _ _
  refine Ev.rounds ?_
  unfold laws_FnExactBlockOf.f laws_toPic.f
  obtain ⟨r, e, hr⟩ := sz_pic w h d 1048576 hd (by omega) (by omega)
  rw [e]
  simp only [Option.bind_some]
  by_cases c : r < 0
  · simp only [c, if_true]; exact Ev.now _
  · simp only [c, if_false]
    have hS := sblockof_ev w h d x y
    have hI := blockof_ev w h d x y
    have hlen := bl_len w h d x y
    generalize (if BlOk w h d x y then blockv w h d x y else []) = v at hS hI hlen
    have hE := eqSelf_ev v (by omega)
    have hM := mark_ev v 1 (by omega) (by omega) (by omega)
    have hH := held_ev v.length 1 (by omega) (by omega) (by omega)
    have n2 : ¬ (1 + (v.length : Int) < 0) := by omega
    repeat' (first
      | exact Ev.now _
      | (refine Ev.bind (by assumption) ?_)
      | (simp only [if_true, if_false, n2]))

end Go.Proofs.Ytokaccgaendhmaa.Pure
