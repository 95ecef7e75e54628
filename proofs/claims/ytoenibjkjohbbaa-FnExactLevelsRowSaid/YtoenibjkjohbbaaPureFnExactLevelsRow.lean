/- The program's LevelsRow answers what the reference's LevelsRow answers, for all levels and conditions, and leaves its argument as it was. No condition beside the row's own. -/
import Derived.Test.YtoenibjkjohbbaaQFnExactLevelsRowx4
namespace Go.Proofs.Ytoenibjkjohbbaa.Pure
open Go.RowKit Go.Proofs.Ytoenibjkjohbbaa.QFnExactLevelsRow Go.Proofs.YtoenibjkjohbbaaW.PrintWords Go.Proofs.YtoenibjkjohbbaaW.PrintLast Go.Proofs.YtoenibjkjohbbaaW.PrintMore
set_option linter.unusedVariables false
set_option linter.unusedSimpArgs false

theorem wrap_id {x : Int} (h0 : -9223372036854775808 ≤ x) (h1 : x ≤ 9223372036854775807) : wrap64 x = x := by
  unfold wrap64
  omega
theorem wf64 {n : Int} (h : (Lit.int .i64 n).wf = true) : -9223372036854775808 ≤ n ∧ n ≤ 9223372036854775807 := by
  simp [Lit.wf, IntKind.min, IntKind.max, IntKind.signed, IntKind.bits] at h
  omega
theorem wfu8 {n : Int} (h : (Lit.int .u8 n).wf = true) : 0 ≤ n ∧ n ≤ 255 := by
  simp [Lit.wf, IntKind.min, IntKind.max, IntKind.signed, IntKind.bits] at h
  omega
theorem within_eq (a b c : Int) : impl_within.f a b c = some (decide (b ≤ a ∧ a ≤ c)) := by
  unfold impl_within.f
  by_cases h : a ≥ b
  · rw [if_pos h]; congr 1; rw [decide_eq_decide]; omega
  · rw [if_neg h]; congr 1; symm; rw [decide_eq_false_iff_not]; omega
theorem in_eq (a b c : Int) : spec_l01In.f a b c = some (decide (b ≤ a ∧ a ≤ c)) := by
  unfold spec_l01In.f
  by_cases h : a ≥ b
  · rw [if_pos h]; congr 1; rw [decide_eq_decide]; omega
  · rw [if_neg h]; congr 1; symm; rw [decide_eq_false_iff_not]; omega

theorem down {P : Nat → Prop} (n : Nat) (h0 : P n) (hs : ∀ i, i < n → P (i + 1) → P i) : ∀ i, i ≤ n → P i := by
  intro i hi
  obtain ⟨d, hd⟩ : ∃ d, d = n - i := ⟨_, rfl⟩
  induction d generalizing i with
  | zero => have : i = n := by omega
            subst this; exact h0
  | succ d ih => exact hs i (by omega) (ih (i + 1) (by omega) (by omega))
theorem rd_nat (l : List Int) (i : Nat) (h : i < l.length) : rd l (i : Int) = l[i] := by
  unfold rd
  rw [List.getD_eq_getElem?_getD, Int.toNat_natCast, List.getElem?_eq_getElem h]; rfl
theorem cast1 (i : Nat) : ((i : Nat) : Int) + 1 = ((i + 1 : Nat) : Int) := rfl
theorem mix_set {α : Type} (l z : List α) (i : Nat) (hi : i < l.length) (hz : i < z.length) : (l.take i ++ z.drop i).set i l[i] = l.take (i + 1) ++ z.drop (i + 1) := by
  rw [List.set_append_right _ _ (by simp; omega)]
  rw [show i - (l.take i).length = 0 by simp; omega]
  rw [List.drop_eq_getElem_cons hz, List.set_cons_zero, List.take_succ_eq_append_getElem hi, List.append_assoc]; rfl
theorem mix_length {α : Type} (l z : List α) (i : Nat) (h : l.length = z.length) (hi : i ≤ l.length) : (l.take i ++ z.drop i).length = l.length := by
  simp; omega
theorem mix_end {α : Type} (l z : List α) (h : l.length = z.length) : l.take l.length ++ z.drop l.length = l := by
  rw [List.take_length, h, List.drop_length, List.append_nil]
theorem mix_zero {α : Type} (l z : List α) : l.take 0 ++ z.drop 0 = z := by simp
theorem drop_cons {α : Type} {l : List α} {i : Nat} (h : i < l.length) : l.drop i = l[i] :: l.drop (i + 1) := List.drop_eq_getElem_cons h
theorem toInts_ev (l : List Int) (hl : l.length ≤ 17592186043904) : Ev (fun k => laws_toIntS.f k l) l := by
  have H : ∀ i, i ≤ l.length → Ev (fun k => laws_toIntS.l0 k l (l.take i ++ (List.replicate l.length (0 : Int)).drop i) (i : Int)) l := by
    refine down l.length ?_ ?_
    · refine Ev.step (f := fun _ => some l) (fun k => ?_) (Ev.now _)
      simp only [laws_toIntS.l0]
      rw [if_neg (by omega), mix_end _ _ (by simp)]
    · intro i hi h
      refine Ev.step (fun k => ?_) h
      simp only [laws_toIntS.l0]
      rw [if_pos (by omega), if_pos (by omega), if_pos (by rw [mix_length _ _ _ (by simp) (by omega)]; omega), rd_nat l i hi, Int.toNat_natCast, mix_set _ _ _ hi (by simp; exact hi), wrap_id (by omega) (by omega), cast1]
  have h0 := H 0 (by omega)
  rw [mix_zero] at h0
  unfold laws_toIntS.f
  refine Ev.congr (fun k => ?_) h0
  rw [if_pos (by omega), if_pos (by simp; omega), Int.toNat_natCast]; rfl
theorem eqInts_ev (a b : List Int) (ha : a.length ≤ 17592186043904) : Ev (fun k => laws_eqIntS.f k a b) (decide (a = b)) := by
  by_cases hl : a.length = b.length
  · have H : ∀ i, i ≤ a.length → Ev (fun k => laws_eqIntS.l0 k a b (i : Int)) (decide (a.drop i = b.drop i)) := by
      refine down a.length ?_ ?_
      · refine Ev.step (f := fun _ => some true) (fun k => ?_) ?_
        · simp only [laws_eqIntS.l0]
          rw [if_neg (by omega)]
        · rw [show decide (a.drop a.length = b.drop a.length) = true by rw [hl]; simp [← hl]]; exact Ev.now _
      · intro i hi h
        have hb : i < b.length := by omega
        by_cases c : a[i] = b[i]
        · have e : decide (a.drop i = b.drop i) = decide (a.drop (i + 1) = b.drop (i + 1)) := by
            rw [decide_eq_decide, drop_cons hi, drop_cons hb, c, List.cons.injEq]; simp only [true_and]
          rw [e]
          refine Ev.step (fun k => ?_) h
          simp only [laws_eqIntS.l0]
          rw [if_pos (by omega), if_pos (by omega), if_pos (by omega), rd_nat a i hi, rd_nat b i hb, if_pos c, wrap_id (by omega) (by omega), cast1]
        · have e : decide (a.drop i = b.drop i) = false := by
            rw [decide_eq_false_iff_not, drop_cons hi, drop_cons hb, List.cons.injEq]; exact fun h => c h.1
          rw [e]
          refine Ev.step (f := fun _ => some false) (fun k => ?_) (Ev.now _)
          simp only [laws_eqIntS.l0]
          rw [if_pos (by omega), if_pos (by omega), if_pos (by omega), rd_nat a i hi, rd_nat b i hb, if_neg c]
    have h0 := H 0 (by omega)
    unfold laws_eqIntS.f
    refine Ev.congr (fun k => ?_) h0
    rw [if_pos (by omega)]; rfl
  · unfold laws_eqIntS.f
    rw [show decide (a = b) = false from decide_eq_false (fun h => hl (by rw [h]))]
    refine Ev.congr (f := fun _ => some false) (fun k => ?_) (Ev.now _)
    rw [if_neg (by omega)]
/-- All numbers of a list are from lo to hi. -/
def allB (lo hi : Int) (l : List Int) : Bool := l.all fun x => decide (lo ≤ x ∧ x ≤ hi)
theorem allB_cons (lo hi x : Int) (l : List Int) : allB lo hi (x :: l) = (decide (lo ≤ x ∧ x ≤ hi) && allB lo hi l) := rfl
theorem allB_iff {lo hi : Int} {l : List Int} : allB lo hi l = true ↔ ∀ x ∈ l, lo ≤ x ∧ x ≤ hi := by
  unfold allB
  rw [List.all_eq_true]
  simp only [decide_eq_true_eq]
theorem areIn_ev (l : List Int) (n lo hi : Int) (hl : l.length ≤ 17592186043904) : Ev (fun k => impl_areIn.f k l n lo hi) (decide ((l.length : Int) = n) && allB lo hi l) := by
  have H : ∀ i, i ≤ l.length → Ev (fun k => impl_areIn.l0 k l n lo hi l (l.length : Int) (i : Int)) (decide ((l.length : Int) = n) && allB lo hi (l.drop i)) := by
    refine down l.length ?_ ?_
    · refine Ev.step (f := fun _ => some (decide ((l.length : Int) = n))) (fun k => ?_) ?_
      · simp only [impl_areIn.l0]
        rw [if_neg (by omega)]; congr 1
      · rw [List.drop_length]; simp only [allB, List.all_nil, Bool.and_true]; exact Ev.now _
    · intro i h1 h
      rw [drop_cons h1, allB_cons]
      by_cases c : lo ≤ l[i] ∧ l[i] ≤ hi
      · rw [decide_eq_true c, Bool.true_and]
        refine Ev.step (fun k => ?_) h
        simp only [impl_areIn.l0]
        rw [if_pos (by omega), if_pos (by omega), if_pos (by omega), rd_nat l i h1, within_eq, Option.bind_some, if_pos (decide_eq_true c), wrap_id (by omega) (by omega), cast1]
      · rw [decide_eq_false c, Bool.false_and, Bool.and_false]
        refine Ev.step (f := fun _ => some false) (fun k => ?_) (Ev.now _)
        simp only [impl_areIn.l0]
        rw [if_pos (by omega), if_pos (by omega), if_pos (by omega), rd_nat l i h1, within_eq, Option.bind_some, if_neg (by simpa using c)]
  exact H 0 (by omega)
theorem all_ev (l : List Int) (n m : Int) (hl : l.length ≤ 17592186043904) (hm : 0 ≤ m) (hm' : m ≤ 1000000000) : Ev (fun k => spec_l09All.f k l n m) (decide ((l.length : Int) = n) && allB (-m) m l) := by
  unfold spec_l09All.f
  by_cases hn : (l.length : Int) = n
  · subst hn
    have H : ∀ i, i ≤ l.length → Ev (fun k => spec_l09All.l0 k l (l.length : Int) m (i : Int)) (allB (-m) m (l.drop i)) := by
      refine down l.length ?_ ?_
      · refine Ev.step (f := fun _ => some true) (fun k => ?_) ?_
        · simp only [spec_l09All.l0]
          rw [if_neg (by omega)]
        · rw [List.drop_length]; exact Ev.now _
      · intro i h1 h
        rw [drop_cons h1, allB_cons]
        by_cases c : -m ≤ l[i] ∧ l[i] ≤ m
        · rw [decide_eq_true c, Bool.true_and]
          refine Ev.step (fun k => ?_) h
          simp only [spec_l09All.l0]
          rw [if_pos (by omega), if_pos (by omega), if_pos (by omega), rd_nat l i h1, wrap_id (x := -m) (by omega) (by omega), in_eq, Option.bind_some, if_pos (decide_eq_true c), wrap_id (by omega) (by omega), cast1]
        · rw [decide_eq_false c, Bool.false_and]
          refine Ev.step (f := fun _ => some false) (fun k => ?_) (Ev.now _)
          simp only [spec_l09All.l0]
          rw [if_pos (by omega), if_pos (by omega), if_pos (by omega), rd_nat l i h1, wrap_id (x := -m) (by omega) (by omega), in_eq, Option.bind_some, if_neg (by simpa using c)]
    refine Ev.congr (fun k => by rw [if_pos rfl]) ?_
    rw [decide_eq_true rfl, Bool.true_and]
    exact H 0 (by omega)
  · rw [decide_eq_false hn, Bool.false_and]
    exact Ev.congr (f := fun _ => some false) (fun k => by rw [if_neg hn]) (Ev.now _)

theorem getElem_rep {n i : Nat} {v : Int} (h : i < (List.replicate n v).length) : (List.replicate n v)[i] = v := List.getElem_replicate h
theorem long_ev (n : Nat) (v : Int) (hn : n ≤ 281474976710656) : Ev (fun k => spec_l01Long.f k (n : Int) v) (strOfNums (List.replicate n v)) := by
  have H : ∀ i, i ≤ n → Ev (fun k => spec_l01Long.l0 k (n : Int) v ((List.replicate n v).take i ++ (List.replicate n (0 : Int)).drop i) (i : Int)) (strOfNums (List.replicate n v)) := by
    refine down n ?_ ?_
    · refine Ev.step (f := fun _ => some (strOfNums (List.replicate n v))) (fun k => ?_) (Ev.now _)
      have := mix_end (List.replicate n v) (List.replicate n (0 : Int)) (by simp)
      rw [List.length_replicate] at this
      simp only [spec_l01Long.l0]
      rw [if_neg (by omega), this]
    · intro i hi h
      refine Ev.step (fun k => ?_) h
      have hl : i < (List.replicate n v).length := by simp; exact hi
      have e := mix_set (List.replicate n v) (List.replicate n (0 : Int)) i hl (by simp; exact hi)
      rw [getElem_rep] at e
      simp only [spec_l01Long.l0]
      rw [if_pos (by omega), if_pos (by omega), if_pos (by rw [mix_length _ _ _ (by simp) (by omega)]; omega), Int.toNat_natCast, e, wrap_id (by omega) (by omega), cast1]
  have h0 := H 0 (by omega)
  rw [mix_zero] at h0
  unfold spec_l01Long.f
  refine Ev.congr (fun k => ?_) h0
  rw [if_pos (by omega), if_pos (by rw [Int.toNat_natCast]; exact hn), Int.toNat_natCast]; rfl

/-- How many binary figures a number has (at most w are looked at). -/
def figsF : Nat → Nat → Nat
  | 0, _ => 0
  | w + 1, x => if x = 0 then 0 else figsF w (x / 2) + 1
def figs (x : Nat) : Nat := figsF 64 x
/-- The last w binary figures of x, as the signs 48 and 49. -/
def fixL (x : Nat) : Nat → List Int
  | 0 => []
  | w + 1 => fixL (x / 2) w ++ [48 + ((x % 2 : Nat) : Int)]
def ueL (n : Nat) : List Int := fixL (n + 1) (2 * figs (n + 1) - 1)
theorem fixL_len (w : Nat) : ∀ x, (fixL x w).length = w := by
  induction w with
  | zero => intro x; rfl
  | succ w ih => intro x; simp [fixL, ih]
theorem figsF_lt (w : Nat) : ∀ x, x < 2 ^ w → ∀ v, w ≤ v → figsF v x = figsF w x := by
  induction w with
  | zero =>
    intro x hx v _
    have : x = 0 := by simpa using hx
    subst this
    cases v with
    | zero => rfl
    | succ v => simp [figsF]
  | succ w ih =>
    intro x hx v hv
    obtain ⟨v, rfl⟩ : ∃ m, v = m + 1 := ⟨v - 1, by omega⟩
    simp only [figsF]
    by_cases h0 : x = 0
    · rw [if_pos h0, if_pos h0]
    · rw [if_neg h0, if_neg h0, ih (x / 2) (by rw [Nat.pow_succ] at hx; omega) v (by omega)]
theorem figsF_le (w : Nat) : ∀ x, figsF w x ≤ w := by
  induction w with
  | zero => intro x; simp [figsF]
  | succ w ih =>
    intro x
    simp only [figsF]
    split
    · omega
    · have := ih (x / 2); omega
theorem figs_le (x : Nat) : figs x ≤ 64 := figsF_le 64 x
theorem figs_half {x : Nat} (h0 : 0 < x) (h : x < 2 ^ 64) : figs x = figs (x / 2) + 1 := by
  unfold figs
  rw [show figsF 64 x = figsF 63 (x / 2) + 1 by rw [show (64 : Nat) = 63 + 1 from rfl]; simp only [figsF]; rw [if_neg (by omega)]]
  rw [figsF_lt 63 (x / 2) (by omega) 64 (by omega)]
theorem figs_zero : figs 0 = 0 := rfl
theorem figs_pos {x : Nat} (h0 : 0 < x) (h : x < 2 ^ 64) : 0 < figs x := by rw [figs_half h0 h]; omega
theorem fixL_zero (w : Nat) : fixL 0 w = List.replicate w 48 := by
  induction w with
  | zero => rfl
  | succ w ih => simp only [fixL]; rw [ih, List.replicate_succ']; rfl
/-- More width: noughts ahead. -/
theorem fixL_more (w : Nat) : ∀ x, x < 2 ^ 64 → figs x ≤ w → fixL x w = List.replicate (w - figs x) 48 ++ fixL x (figs x) := by
  induction w with
  | zero =>
    intro x hx h
    have : figs x = 0 := by omega
    rw [this]; rfl
  | succ w ih =>
    intro x hx h
    by_cases h0 : x = 0
    · subst h0; rw [fixL_zero, figs_zero]; simp [fixL]
    · have e := figs_half (show 0 < x by omega) hx
      have i := ih (x / 2) (by omega) (by omega)
      have e2 : fixL x (figs x) = fixL (x / 2) (figs (x / 2)) ++ [48 + ((x % 2 : Nat) : Int)] := by rw [e]; rfl
      rw [e2, ← List.append_assoc]
      simp only [fixL]
      rw [i]
      congr 3
      omega
theorem ueL_eq (n : Nat) (h : n + 1 < 2 ^ 64) : ueL n = List.replicate (figs (n + 1) - 1) 48 ++ fixL (n + 1) (figs (n + 1)) := by
  have hp := figs_pos (x := n + 1) (by omega) h
  unfold ueL
  rw [fixL_more _ _ h (by omega)]
  congr 2
  omega
theorem ueL_len (n : Nat) : (ueL n).length ≤ 127 := by
  unfold ueL; rw [fixL_len]
  have := figs_le (n + 1)
  omega
theorem fixL_mem (w : Nat) : ∀ x, ∀ y ∈ fixL x w, y = 48 ∨ y = 49 := by
  induction w with
  | zero => intro x y hy; simp [fixL] at hy
  | succ w ih =>
    intro x y hy
    simp only [fixL, List.mem_append, List.mem_singleton] at hy
    rcases hy with hy | hy
    · exact ih _ y hy
    · omega
theorem ueL_mem (n : Nat) : ∀ y ∈ ueL n, y = 48 ∨ y = 49 := fixL_mem _ _
/-- Signs and counted numbers. -/
def foldN (x : Int) : Nat := if x > 0 then (2 * x - 1).toNat else (-2 * x).toNat
def isnz (x : Int) : Nat := if x = 0 then 0 else 1
def cntN (l : List Int) : Nat := (l.map isnz).sum
def rtL : Nat → List Int → List Int
  | _, [] => []
  | z, x :: l => if x = 0 then rtL (z + 1) l else ueL z ++ (ueL (foldN x) ++ rtL 0 l)
def runsL (l : List Int) : List Int := ueL (cntN l) ++ rtL 0 l
theorem rtL_len : ∀ (l : List Int) (z : Nat), (rtL z l).length ≤ 254 * l.length := by
  intro l
  induction l with
  | nil => intro z; simp [rtL]
  | cons x l ih =>
    intro z
    simp only [rtL]
    split
    · have := ih (z + 1); simp only [List.length_cons]; omega
    · have h1 := ueL_len z
      have h2 := ueL_len (foldN x)
      have h3 := ih 0
      simp only [List.length_append, List.length_cons]; omega
theorem strOfNums_append (a b : List Int) : strOfNums a ++ strOfNums b = strOfNums (a ++ b) := by
  apply ByteArray.ext
  simp [strOfNums, ByteArray.data_append]
theorem strOfNums_nil : strOfNums [] = (⟨#[]⟩ : ByteArray) := rfl
theorem bytesOf_strOfNums {l : List Int} (h : ∀ x ∈ l, 0 ≤ x ∧ x ≤ 255) : bytesOf (strOfNums l) = l := by
  unfold bytesOf
  rw [strOfNums_data, List.map_map]
  conv => rhs; rw [← List.map_id l]
  apply List.map_congr_left
  intro x hx
  have := h x hx
  simp
  omega
theorem tdiv2 {x : Nat} : Int.tdiv (x : Int) 2 = ((x / 2 : Nat) : Int) := by rw [Int.tdiv_eq_ediv_of_nonneg (by omega)]; omega
theorem tmod2 {x : Nat} : Int.tmod (x : Int) 2 = ((x % 2 : Nat) : Int) := by rw [Int.tmod_eq_emod_of_nonneg (by omega)]; omega
theorem sue_loop (w : Nat) : ∀ (x : Nat) (sl : List Int), x < 2 ^ w → w ≤ 63 → sl.length + w ≤ 1000 → 0 < figs x + sl.length →
    Ev (fun k => spec_l03Ue.l0 k (x : Int) (strOfNums sl)) (strOfNums (List.replicate (figs x + sl.length - 1) 48 ++ (fixL x (figs x) ++ sl))) := by
  have hend : ∀ sl : List Int, sl.length ≤ 1000 → 0 < sl.length → Ev (fun k => spec_l03Ue.l0 k ((0 : Nat) : Int) (strOfNums sl)) (strOfNums (List.replicate (figs 0 + sl.length - 1) 48 ++ (fixL 0 (figs 0) ++ sl))) := by
    intro sl hs hp
    have hl := long_ev (figs 0 + sl.length - 1) 48 (by rw [figs_zero]; omega)
    rw [show ((figs 0 + sl.length - 1 : Nat) : Int) = (sl.length : Int) - 1 by rw [figs_zero]; omega] at hl
    refine Ev.step (f := fun k => (spec_l01Long.f k ((sl.length : Int) - 1) 48).bind fun t => (if t.size + (strOfNums sl).size ≤ 9223372036854775807 then (some (t ++ strOfNums sl)) else (none))) (fun k => ?_) (Ev.bind hl ?_)
    · simp only [spec_l03Ue.l0]
      rw [if_neg (by omega), strOfNums_size, wrap_id (by omega) (by omega)]
    · rw [if_pos (by rw [strOfNums_size, strOfNums_size, List.length_replicate, figs_zero]; omega), strOfNums_append]
      exact Ev.now _
  induction w with
  | zero =>
    intro x sl hx _ hs hp
    have : x = 0 := by simpa using hx
    subst this
    exact hend sl (by omega) (by rw [figs_zero] at hp; omega)
  | succ w ih =>
    intro x sl hx hw hs hp
    have h64 : 2 ^ (w + 1) ≤ 2 ^ 64 := Nat.pow_le_pow_right (by decide) (by omega)
    by_cases h0 : x = 0
    · subst h0; exact hend sl (by omega) (by rw [figs_zero] at hp; omega)
    · have e := figs_half (show 0 < x by omega) (by omega)
      have i := ih (x / 2) ([48 + ((x % 2 : Nat) : Int)] ++ sl) (by rw [Nat.pow_succ] at hx; omega) (by omega) (by simp; omega) (by simp; omega)
      have e2 : fixL x (figs x) = fixL (x / 2) (figs (x / 2)) ++ [48 + ((x % 2 : Nat) : Int)] := by rw [e]; rfl
      rw [e2, List.append_assoc]
      rw [show figs x + sl.length - 1 = figs (x / 2) + ([48 + ((x % 2 : Nat) : Int)] ++ sl).length - 1 by simp; omega]
      refine Ev.step (fun k => ?_) i
      have h63 : (x : Int) < 9223372036854775808 := by
        have : 2 ^ (w + 1) ≤ 2 ^ 63 := Nat.pow_le_pow_right (by decide) (by omega)
        omega
      simp only [spec_l03Ue.l0, Option.bind_some]
      rw [if_pos (by omega), tmod2, tdiv2, wrap_id (x := 48 + ((x % 2 : Nat) : Int)) (by omega) (by omega), show (48 + ((x % 2 : Nat) : Int)) % 256 = 48 + ((x % 2 : Nat) : Int) by omega, if_pos (by rw [strOfNums_size, strOfNums_size]; simp; omega), strOfNums_append, wrap_id (by omega) (by omega)]
theorem sue_ev (n : Nat) (hn : n < 1000000000000) : Ev (fun k => spec_l03Ue.f k (n : Int)) (strOfNums (ueL n)) := by
  have hp := figs_pos (x := n + 1) (by omega) (by omega)
  have h := sue_loop 63 (n + 1) [] (by omega) (by omega) (by simp) (by simp; omega)
  unfold spec_l03Ue.f
  rw [ueL_eq n (by omega)]
  rw [List.append_nil, List.length_nil, Nat.add_zero, strOfNums_nil] at h
  refine Ev.congr (fun k => ?_) h
  rw [wrap_id (by omega) (by omega)]; rfl
theorem figs_loop (w : Nat) : ∀ (x c : Nat), x < 2 ^ w → w ≤ 63 → c + w ≤ 1000 → Ev (fun k => impl_figuresOf.l0 k (x : Int) (c : Int)) ((c + figs x : Nat) : Int) := by
  have hend : ∀ c : Nat, Ev (fun k => impl_figuresOf.l0 k ((0 : Nat) : Int) (c : Int)) ((c + figs 0 : Nat) : Int) := fun c =>
    Ev.step (f := fun _ => some ((c + figs 0 : Nat) : Int)) (fun k => by simp only [impl_figuresOf.l0]; rw [if_neg (by omega)]; rfl) (Ev.now _)
  induction w with
  | zero =>
    intro x c hx _ _
    have : x = 0 := by simpa using hx
    subst this; exact hend c
  | succ w ih =>
    intro x c hx hw hc
    have h64 : 2 ^ (w + 1) ≤ 2 ^ 64 := Nat.pow_le_pow_right (by decide) (by omega)
    by_cases h0 : x = 0
    · subst h0; exact hend c
    · have e := figs_half (show 0 < x by omega) (by omega)
      have i := ih (x / 2) (c + 1) (by rw [Nat.pow_succ] at hx; omega) (by omega) (by omega)
      rw [show c + figs x = c + 1 + figs (x / 2) by omega]
      refine Ev.step (fun k => ?_) i
      simp only [impl_figuresOf.l0]
      rw [if_pos (by omega), wrap_id (by omega) (by omega), cast1, show ((x : Int) / 2) = ((x / 2 : Nat) : Int) by omega]
theorem figs_ev (x : Nat) (hx : x < 2 ^ 63) : Ev (fun k => impl_figuresOf.f k (x : Int)) (figs x : Int) := by
  have h := figs_loop 63 x 0 hx (by omega) (by omega)
  rw [Nat.zero_add] at h
  exact h
theorem i64_and1 (x : Nat) (hx : x < 2 ^ 63) : Go.bits .and .i64 (x : Int) 1 = ((x % 2 : Nat) : Int) := by
  have h := bits_mask .i64 63 (by decide) (fun n h0 h1 => by rw [IntKind.wrap_i64]; omega) 1 (by decide) (x : Int) (by omega) (by omega)
  rw [show ((2 : Int) ^ 1 - 1) = 1 from rfl, show ((2 : Int) ^ 1) = 2 from rfl] at h
  rw [h]; omega
theorem rep_set (v : Nat) (d : Int) (tail : List Int) : (List.replicate (v + 1) (0 : Int) ++ tail).set v d = List.replicate v 0 ++ ([d] ++ tail) := by
  rw [List.replicate_succ', List.append_assoc, List.set_append_right _ _ (by simp), show v - (List.replicate v (0 : Int)).length = 0 by simp]
  rfl
theorem signs_loop (v : Nat) : ∀ (x : Nat) (tail : List Int), x < 2 ^ 63 → v ≤ 1000 → Ev (fun k => impl_signs.l0 k (x : Int) (List.replicate v 0 ++ tail) ((v : Int) - 1)) (strOfNums (fixL x v ++ tail)) := by
  induction v with
  | zero =>
    intro x tail _ _
    refine Ev.step (f := fun _ => some (strOfNums tail)) (fun k => ?_) (Ev.now _)
    simp only [impl_signs.l0]
    rw [if_neg (by omega)]; rfl
  | succ v ih =>
    intro x tail hx hv
    have i := ih (x / 2) ([48 + ((x % 2 : Nat) : Int)] ++ tail) (by omega) (by omega)
    rw [show fixL x (v + 1) ++ tail = fixL (x / 2) v ++ ([48 + ((x % 2 : Nat) : Int)] ++ tail) by simp only [fixL]; rw [List.append_assoc]]
    refine Ev.step (fun k => ?_) i
    simp only [impl_signs.l0]
    rw [if_pos (by omega), if_pos (by omega), if_pos (by simp; omega), i64_and1 x hx, wrap_id (x := 48 + ((x % 2 : Nat) : Int)) (by omega) (by omega), show (48 + ((x % 2 : Nat) : Int)) % 256 = 48 + ((x % 2 : Nat) : Int) by omega, show (((v + 1 : Nat) : Int) - 1) = (v : Int) by omega, Int.toNat_natCast, rep_set, show ((x : Int) / 2) = ((x / 2 : Nat) : Int) by omega, wrap_id (by omega) (by omega)]
theorem signs_ev (x w : Nat) (hx : x < 2 ^ 63) (hw : w ≤ 1000) : Ev (fun k => impl_signs.f k (x : Int) (w : Int)) (strOfNums (fixL x w)) := by
  have h := signs_loop w x [] hx hw
  rw [List.append_nil, List.append_nil] at h
  unfold impl_signs.f
  refine Ev.congr (fun k => ?_) h
  rw [if_pos (by omega), if_pos (by rw [Int.toNat_natCast]; omega), Int.toNat_natCast, wrap_id (by omega) (by omega)]
theorem ue_ev (n : Nat) (hn : n < 1000000000000) : Ev (fun k => impl_ue.f k (n : Int)) (strOfNums (ueL n)) := by
  have hp := figs_pos (x := n + 1) (by omega) (by omega)
  have hle := figs_le (n + 1)
  have h1 := figs_ev (n + 1) (by omega)
  have h2 := signs_ev (n + 1) (2 * figs (n + 1) - 1) (by omega) (by omega)
  unfold impl_ue.f
  refine Ev.congr (f := fun k => (impl_figuresOf.f k ((n + 1 : Nat) : Int)).bind fun t => ((impl_signs.f k ((n + 1 : Nat) : Int) (wrap64 ((wrap64 (2 * t)) - 1))).bind fun t138 => (some t138))) (fun k => by rw [wrap_id (x := (n : Int) + 1) (by omega) (by omega)]; rfl) (Ev.bind h1 ?_)
  rw [wrap_id (x := 2 * (figs (n + 1) : Int)) (by omega) (by omega), wrap_id (by omega) (by omega), show (2 * (figs (n + 1) : Int) - 1) = ((2 * figs (n + 1) - 1 : Nat) : Int) by omega]
  exact Ev.bind h2 (Ev.now _)
theorem fold_lt {x : Int} (h0 : -500000 ≤ x) (h1 : x ≤ 500000) : foldN x ≤ 1000000 := by unfold foldN; split <;> omega
theorem fold_eq (x : Int) (h0 : -500000 ≤ x) (h1 : x ≤ 500000) : impl_FoldSe.f x = some ((foldN x : Int), true) := by
  unfold impl_FoldSe.f foldN
  rw [within_eq, Option.bind_some, if_pos (decide_eq_true ⟨h0, h1⟩)]
  by_cases c : x > 0
  · rw [if_pos c, if_pos c, wrap_id (x := 2 * x) (by omega) (by omega), wrap_id (by omega) (by omega), Int.toNat_of_nonneg (by omega)]
  · rw [if_neg c, if_neg c, wrap_id (by omega) (by omega), Int.toNat_of_nonneg (by omega)]
theorem sfold_eq (x : Int) (h0 : -500000 ≤ x) (h1 : x ≤ 500000) : spec_FoldSe.f x = some ((foldN x : Int), true) := by
  unfold spec_FoldSe.f foldN
  rw [in_eq, Option.bind_some, if_pos (decide_eq_true ⟨h0, h1⟩)]
  by_cases c : x > 0
  · rw [if_pos c, if_pos c, wrap_id (x := 2 * x) (by omega) (by omega), wrap_id (by omega) (by omega), Int.toNat_of_nonneg (by omega)]
  · rw [if_neg c, if_neg c, wrap_id (by omega) (by omega), Int.toNat_of_nonneg (by omega)]
theorem sse_ev (x : Int) (h0 : -500000 ≤ x) (h1 : x ≤ 500000) : Ev (fun k => spec_l03Se.f k x) (strOfNums (ueL (foldN x))) := by
  unfold spec_l03Se.f
  rw [sfold_eq x h0 h1]
  simp only [Option.bind_some]
  exact Ev.bind (sue_ev _ (by have := fold_lt h0 h1; omega)) (Ev.now _)
theorem cntN_cons (x : Int) (l : List Int) : cntN (x :: l) = isnz x + cntN l := by simp [cntN]
theorem cntN_le (l : List Int) : cntN l ≤ l.length := by
  induction l with
  | nil => simp [cntN]
  | cons x l ih => rw [cntN_cons]; unfold isnz; simp only [List.length_cons]; split <;> omega
theorem bytes_row {l : List Int} (h : ∀ y ∈ l, y = 48 ∨ y = 49) : bytesOf (strOfNums l) = l :=
  bytesOf_strOfNums fun x hx => by rcases h x hx with e | e <;> omega
theorem runs_l1 (l : List Int) (hl : l.length ≤ 64) (hb : allB (-5000) 5000 l = true) :
    ∀ i : Nat, i ≤ l.length → ∀ (out : List Int) (z : Nat), out.length ≤ 300 * i + 300 → z ≤ i → Ev (fun k => impl_runs.l1 k out (z : Int) l (l.length : Int) (i : Int)) (out ++ rtL z (l.drop i)) := by
  refine down l.length ?_ ?_
  · intro out z _ _
    rw [List.drop_length, rtL, List.append_nil]
    refine Ev.step (f := fun _ => some out) (fun k => ?_) (Ev.now _)
    simp only [impl_runs.l1]
    rw [if_neg (by omega)]
  · intro i hi h out z ho hz
    have hm := allB_iff.1 hb _ (List.getElem_mem hi)
    rw [drop_cons hi]
    by_cases c : l[i] = 0
    · have h' := h out (z + 1) (by omega) (by omega)
      rw [rtL, if_pos c]
      refine Ev.step (fun k => ?_) h'
      simp only [impl_runs.l1]
      rw [if_pos (by omega), if_pos (by omega), if_pos (by omega), rd_nat l i hi, if_pos c, wrap_id (x := (z : Int) + 1) (by omega) (by omega), wrap_id (by omega) (by omega), cast1, cast1]
    · have lz := ueL_len z
      have lf := ueL_len (foldN l[i])
      have h' := h (out ++ ueL z ++ ueL (foldN l[i])) 0 (by simp only [List.length_append]; omega) (by omega)
      have hu := ue_ev z (by omega)
      have hf := ue_ev (foldN l[i]) (by have := fold_lt (x := l[i]) (by omega) (by omega); omega)
      rw [rtL, if_neg c]
      rw [show out ++ (ueL z ++ (ueL (foldN l[i]) ++ rtL 0 (l.drop (i + 1)))) = out ++ ueL z ++ ueL (foldN l[i]) ++ rtL 0 (l.drop (i + 1)) by simp only [List.append_assoc]]
      refine Ev.step (f := fun k => (impl_ue.f k (z : Int)).bind fun t151 => (if out.length + t151.size < 140737488355328 then ((some (out ++ bytesOf t151 : List Int)).bind fun y152 => ((impl_ue.f k (foldN l[i] : Int)).bind fun t155 => (if y152.length + t155.size < 140737488355328 then (impl_runs.l1 k (y152 ++ bytesOf t155) 0 l (l.length : Int) ((i + 1 : Nat) : Int)) else (none)))) else (none))) (fun k => ?_) (Ev.bind hu ?_)
      · simp only [impl_runs.l1]
        rw [if_pos (by omega), if_pos (by omega), if_pos (by omega), rd_nat l i hi, if_neg c, fold_eq _ (by omega) (by omega), Option.bind_some, wrap_id (x := (i : Int) + 1) (by omega) (by omega), cast1]
      · rw [bytes_row (ueL_mem z)]
        have e1 : out.length + (strOfNums (ueL z)).size < 140737488355328 := by rw [strOfNums_size]; omega
        have e2 : (out ++ ueL z).length + (strOfNums (ueL (foldN l[i]))).size < 140737488355328 := by rw [strOfNums_size, List.length_append]; omega
        simp only [e1, if_true, Option.bind_some]
        refine Ev.bind hf ?_
        simp only [e2, if_true]
        rw [bytes_row (ueL_mem _)]
        exact h'
theorem runs_l0 (l : List Int) (hl : l.length ≤ 64) (hb : allB (-5000) 5000 l = true) :
    ∀ i : Nat, i ≤ l.length → ∀ (c : Nat), c ≤ i → Ev (fun k => impl_runs.l0 k l [] (c : Int) l (l.length : Int) (i : Int)) (ueL (c + cntN (l.drop i)) ++ rtL 0 l) := by
  refine down l.length ?_ ?_
  · intro c hc
    rw [List.drop_length, show cntN [] = 0 from rfl, Nat.add_zero]
    have hu := ue_ev c (by omega)
    have h1 := runs_l1 l hl hb 0 (by omega) (ueL c) 0 (by have := ueL_len c; omega) (by omega)
    rw [List.drop_zero] at h1
    refine Ev.step (f := fun k => (impl_ue.f k (c : Int)).bind fun t144 => (if ([] : List Int).length + t144.size < 140737488355328 then (impl_runs.l1 k ([] ++ bytesOf t144) 0 l (l.length : Int) 0) else (none))) (fun k => ?_) (Ev.bind hu ?_)
    · simp only [impl_runs.l0]
      rw [if_neg (by omega)]
    · rw [bytes_row (ueL_mem c)]
      have e1 : ([] : List Int).length + (strOfNums (ueL c)).size < 140737488355328 := by rw [strOfNums_size]; have := ueL_len c; simp; omega
      simp only [e1, if_true, List.nil_append]
      exact h1
  · intro i hi h c hc
    rw [drop_cons hi, cntN_cons]
    by_cases c0 : l[i] = 0
    · have h' := h c (by omega)
      rw [show isnz l[i] = 0 by unfold isnz; rw [if_pos c0], Nat.zero_add]
      refine Ev.step (fun k => ?_) h'
      simp only [impl_runs.l0]
      rw [if_pos (by omega), if_pos (by omega), if_pos (by omega), rd_nat l i hi, if_pos c0, wrap_id (by omega) (by omega), cast1]
    · have h' := h (c + 1) (by omega)
      rw [show isnz l[i] = 1 by unfold isnz; rw [if_neg c0], ← Nat.add_assoc]
      refine Ev.step (fun k => ?_) h'
      simp only [impl_runs.l0]
      rw [if_pos (by omega), if_pos (by omega), if_pos (by omega), rd_nat l i hi, if_neg c0, wrap_id (x := (c : Int) + 1) (by omega) (by omega), wrap_id (by omega) (by omega), cast1, cast1]
theorem runs_ev (l : List Int) (hl : l.length ≤ 64) (hb : allB (-5000) 5000 l = true) : Ev (fun k => impl_runs.f k l) (runsL l) := by
  have h := runs_l0 l hl hb 0 (by omega) 0 (by omega)
  rw [List.drop_zero, Nat.zero_add] at h
  exact h
theorem sruns_loop (l : List Int) (hl : l.length ≤ 64) (hb : allB (-5000) 5000 l = true) :
    ∀ i : Nat, i ≤ l.length → ∀ (c z : Nat) (out : List Int), c ≤ i → z ≤ i → out.length ≤ 300 * i → Ev (fun k => spec_l11Runs.l0 k l (c : Int) (z : Int) (strOfNums out) (i : Int)) (strOfNums (ueL (c + cntN (l.drop i)) ++ (out ++ rtL z (l.drop i)))) := by
  refine down l.length ?_ ?_
  · intro c z out hc hz ho
    rw [List.drop_length, show cntN [] = 0 from rfl, Nat.add_zero, rtL, List.append_nil]
    have hu := sue_ev c (by omega)
    have := ueL_len c
    refine Ev.step (f := fun k => (spec_l03Ue.f k (c : Int)).bind fun t122 => (if t122.size + (strOfNums out).size ≤ 9223372036854775807 then (some (t122 ++ strOfNums out)) else (none))) (fun k => ?_) (Ev.bind hu ?_)
    · simp only [spec_l11Runs.l0]
      rw [if_neg (by omega)]
    · rw [if_pos (by rw [strOfNums_size, strOfNums_size]; omega), strOfNums_append]
      exact Ev.now _
  · intro i hi h c z out hc hz ho
    have hm := allB_iff.1 hb _ (List.getElem_mem hi)
    rw [drop_cons hi, cntN_cons]
    by_cases c0 : l[i] = 0
    · have h' := h c (z + 1) out (by omega) (by omega) (by omega)
      rw [show isnz l[i] = 0 by unfold isnz; rw [if_pos c0], Nat.zero_add, rtL, if_pos c0]
      refine Ev.step (fun k => ?_) h'
      simp only [spec_l11Runs.l0]
      rw [if_pos (by omega), if_pos (by omega), rd_nat l i hi, if_pos c0, wrap_id (x := (z : Int) + 1) (by omega) (by omega), wrap_id (by omega) (by omega), cast1, cast1]
    · have lz := ueL_len z
      have lf := ueL_len (foldN l[i])
      have h' := h (c + 1) 0 (out ++ ueL z ++ ueL (foldN l[i])) (by omega) (by omega) (by simp only [List.length_append]; omega)
      have hu := sue_ev z (by omega)
      have hf := sse_ev l[i] (by omega) (by omega)
      rw [show isnz l[i] = 1 by unfold isnz; rw [if_neg c0], ← Nat.add_assoc, rtL, if_neg c0]
      rw [show out ++ (ueL z ++ (ueL (foldN l[i]) ++ rtL 0 (l.drop (i + 1)))) = out ++ ueL z ++ ueL (foldN l[i]) ++ rtL 0 (l.drop (i + 1)) by simp only [List.append_assoc]]
      refine Ev.step (f := fun k => (spec_l03Ue.f k (z : Int)).bind fun t124 => (if (strOfNums out).size + t124.size ≤ 9223372036854775807 then ((spec_l03Se.f k l[i]).bind fun t126 => (if (strOfNums out ++ t124).size + t126.size ≤ 9223372036854775807 then (spec_l11Runs.l0 k l ((c + 1 : Nat) : Int) 0 ((strOfNums out ++ t124) ++ t126) ((i + 1 : Nat) : Int)) else (none))) else (none))) (fun k => ?_) (Ev.bind hu ?_)
      · simp only [spec_l11Runs.l0]
        rw [if_pos (by omega), if_pos (by omega), rd_nat l i hi, if_neg c0, wrap_id (x := (c : Int) + 1) (by omega) (by omega), wrap_id (x := (i : Int) + 1) (by omega) (by omega), cast1, cast1]
      · rw [strOfNums_append]
        have e1 : (strOfNums out).size + (strOfNums (ueL z)).size ≤ 9223372036854775807 := by rw [strOfNums_size, strOfNums_size]; omega
        have e2 : (strOfNums (out ++ ueL z)).size + (strOfNums (ueL (foldN l[i]))).size ≤ 9223372036854775807 := by rw [strOfNums_size, strOfNums_size, List.length_append]; omega
        simp only [e1, if_true]
        refine Ev.bind hf ?_
        simp only [e2, if_true]
        rw [strOfNums_append]
        exact h'
theorem sruns_ev (l : List Int) (hl : l.length ≤ 64) (hb : allB (-5000) 5000 l = true) : Ev (fun k => spec_l11Runs.f k l) (strOfNums (runsL l)) := by
  have h := sruns_loop l hl hb 0 (by omega) 0 0 [] (by omega) (by omega) (by simp)
  rw [List.drop_zero, Nat.zero_add, List.nil_append] at h
  exact h

def condB (q : Int) (l e : Bool) : Bool := decide (0 ≤ q ∧ q ≤ 40) && !(l && e)
theorem cond_val (a : Bool) (q : Int) (l e : Bool) : impl_CondOk.f a q l e = some (condB q l e) := by
  unfold impl_CondOk.f condB
  rw [within_eq, Option.bind_some]
  by_cases c : 0 ≤ q ∧ q ≤ 40
  · simp only [c, and_self, decide_true, if_true, Bool.true_and]
    cases l <;> cases e <;> rfl
  · simp only [c, decide_false, Bool.false_eq_true, if_false, Bool.false_and]
theorem scond_val (a : Bool) (q : Int) (l e : Bool) : spec_CondOk.f a q l e = some (condB q l e) := by
  unfold spec_CondOk.f condB
  rw [in_eq, Option.bind_some]
  by_cases c : 0 ≤ q ∧ q ≤ 40
  · simp only [c, and_self, decide_true, if_true, Bool.true_and]
    cases l <;> cases e <;> rfl
  · simp only [c, decide_false, Bool.false_eq_true, if_false, Bool.false_and]

theorem len_decs (l : List Int) (n : Nat) (m : Int) (h : m = (n : Int)) : decide ((l.length : Int) = m) = decide (l.length = n) := by rw [decide_eq_decide]; omega
def levB (l : List Int) : Bool := decide (l.length = 64) && allB (-5000) 5000 l
/-- What a right square is. -/
def sqB (kd mode dx dy : Int) (l : List Int) : Bool :=
  if kd = 0 then decide (mode = 0) && (decide (dx = 0) && (decide (dy = 0) && decide (l.length = 0)))
  else if kd = 1 then decide (mode = 0) && (decide (-16 ≤ dx ∧ dx ≤ 16) && (decide (-16 ≤ dy ∧ dy ≤ 16) && levB l))
  else if kd = 2 then decide (0 ≤ mode ∧ mode ≤ 3) && (decide (dx = 0) && (decide (dy = 0) && levB l))
  else false
theorem levels_ev (l : List Int) (hl : l.length ≤ 17592186043904) : Ev (fun k => impl_areLevels.f k l) (levB l) := by
  unfold impl_areLevels.f levB
  have h := areIn_ev l 64 (-5000) 5000 hl
  rw [len_decs l 64 64 rfl] at h
  exact Ev.bind h (Ev.now _)
theorem slevels_ev (l : List Int) (hl : l.length ≤ 17592186043904) : Ev (fun k => spec_l09All.f k l 64 5000) (levB l) := by
  unfold levB
  have h := all_ev l 64 5000 hl (by omega) (by omega)
  rwa [len_decs l 64 64 rfl] at h
theorem len0 (l : List Int) : ((l.length : Int) == 0) = decide (l.length = 0) := by
  rw [Bool.eq_iff_iff, beq_iff_eq, decide_eq_true_eq]; omega

/-- The sixteen levels of quarter i. -/
def qtr (l : List Int) (i : Nat) : List Int := (l.take (16 * i + 16)).drop (16 * i)
theorem qtr_len {l : List Int} (h : l.length = 64) (i : Nat) (hi : i < 4) : (qtr l i).length = 16 := by
  unfold qtr; rw [List.length_drop, List.length_take]; omega
theorem allB_sub {lo hi : Int} {l m : List Int} (h : allB lo hi l = true) (hs : ∀ x ∈ m, x ∈ l) : allB lo hi m = true := allB_iff.2 fun x hx => allB_iff.1 h x (hs x hx)
theorem qtr_all {l : List Int} {lo hi : Int} (h : allB lo hi l = true) (i : Nat) : allB lo hi (qtr l i) = true :=
  allB_sub h fun _ hx => List.mem_of_mem_take (List.mem_of_mem_drop hx)
def qrows (l : List Int) : Nat → List Int
  | 0 => []
  | n + 1 => qrows l n ++ runsL (qtr l n)
def lrL (l : List Int) (large exact_ : Bool) : List Int := if (large || exact_) = true then runsL l else qrows l 4
theorem runsL_len (l : List Int) : (runsL l).length ≤ 127 + 254 * l.length := by
  unfold runsL
  have h1 := ueL_len (cntN l)
  have h2 := rtL_len l 0
  rw [List.length_append]; omega
theorem qrows_len {l : List Int} (h : l.length = 64) (n : Nat) (hn : n ≤ 4) : (qrows l n).length ≤ 5000 * n := by
  induction n with
  | zero => simp [qrows]
  | succ n ih =>
    have h1 := ih (by omega)
    have h2 := runsL_len (qtr l n)
    rw [qtr_len h n (by omega)] at h2
    simp only [qrows, List.length_append]; omega
theorem lr_loop (l : List Int) (hl : l.length = 64) (hb : allB (-5000) 5000 l = true) : ∀ i : Nat, i ≤ 4 → Ev (fun k => impl_levelsRow.l0 k l (qrows l i) (i : Int)) (qrows l 4) := by
  refine down 4 ?_ ?_
  · refine Ev.step (f := fun _ => some (qrows l 4)) (fun k => ?_) (Ev.now _)
    simp only [impl_levelsRow.l0]
    rw [if_neg (by omega)]
  · intro i hi h
    have hq := runs_ev (qtr l i) (by rw [qtr_len hl i hi]; omega) (qtr_all hb i)
    have l1 := qrows_len hl i (by omega)
    have l2 := runsL_len (qtr l i)
    rw [qtr_len hl i hi] at l2
    refine Ev.step (f := fun k => (impl_runs.f k (qtr l i)).bind fun t => (if (qrows l i).length + t.length < 140737488355328 then (impl_levelsRow.l0 k l (qrows l i ++ t) ((i + 1 : Nat) : Int)) else (none))) (fun k => ?_) (Ev.bind hq ?_)
    · simp only [impl_levelsRow.l0]
      rw [if_pos (by omega), wrap_id (x := 16 * (i : Int)) (by omega) (by omega), if_pos (by omega), wrap_id (x := 16 * (i : Int) + 16) (by omega) (by omega), if_pos (by omega), if_pos (by omega), wrap_id (x := (i : Int) + 1) (by omega) (by omega), cast1, show (16 * (i : Int) + 16).toNat = 16 * i + 16 by omega, show (16 * (i : Int)).toNat = 16 * i by omega]
      rfl
    · refine Ev.congr (fun k => ?_) h
      rw [if_pos (by omega)]; rfl
theorem lr_ev (l : List Int) (a : Bool) (q : Int) (large ex : Bool) (hl : l.length = 64) (hb : allB (-5000) 5000 l = true) : Ev (fun k => impl_levelsRow.f k l a q large ex) (lrL l large ex) := by
  unfold impl_levelsRow.f lrL
  have h1 : Ev (fun k => impl_levelsRow.j0 k l true) (runsL l) := Ev.step (fun k => by simp only [impl_levelsRow.j0, if_true] <;> rfl) (Ev.bind (runs_ev l (by omega) hb) (Ev.now _))
  have h2 : Ev (fun k => impl_levelsRow.j0 k l false) (qrows l 4) := Ev.step (fun k => by simp only [impl_levelsRow.j0, Bool.false_eq_true, if_false]; rfl) (lr_loop l hl hb 0 (by omega))
  cases large <;> cases ex
  · simpa using h2
  · simpa using h1
  · simpa using h1
  · simpa using h1
theorem drop48 {l : List Int} (h : l.length = 64) : l.drop 48 = qtr l 3 := by
  unfold qtr
  rw [List.take_of_length_le (by omega)]
theorem take16 (l : List Int) : l.take 16 = qtr l 0 := by unfold qtr; simp
theorem slr_ev (l : List Int) (a : Bool) (q : Int) (large ex : Bool) (hl : l.length = 64) (hb : allB (-5000) 5000 l = true) : Ev (fun k => spec_l14Row.f k l a q large ex) (strOfNums (lrL l large ex)) := by
  unfold spec_l14Row.f lrL
  have h1 : Ev (fun k => spec_l14Row.j0 k l true) (strOfNums (runsL l)) := Ev.step (fun k => by simp only [spec_l14Row.j0, if_true] <;> rfl) (Ev.bind (sruns_ev l (by omega) hb) (Ev.now _))
  have hq : ∀ i, i < 4 → Ev (fun k => spec_l11Runs.f k (qtr l i)) (strOfNums (runsL (qtr l i))) := fun i hi => sruns_ev (qtr l i) (by rw [qtr_len hl i hi]; omega) (qtr_all hb i)
  have ln : ∀ i, i < 4 → (runsL (qtr l i)).length ≤ 5000 := fun i hi => by
    have := runsL_len (qtr l i); rw [qtr_len hl i hi] at this; omega
  have n0 := ln 0 (by omega)
  have n1 := ln 1 (by omega)
  have n2 := ln 2 (by omega)
  have n3 := ln 3 (by omega)
  have h2 : Ev (fun k => spec_l14Row.j0 k l false) (strOfNums (qrows l 4)) := by
    have e1 : (strOfNums (runsL (qtr l 0))).size + (strOfNums (runsL (qtr l 1))).size ≤ 9223372036854775807 := by rw [strOfNums_size, strOfNums_size]; omega
    have e2 : (strOfNums (runsL (qtr l 0) ++ runsL (qtr l 1))).size + (strOfNums (runsL (qtr l 2))).size ≤ 9223372036854775807 := by rw [strOfNums_size, strOfNums_size, List.length_append]; omega
    have e3 : (strOfNums ((runsL (qtr l 0) ++ runsL (qtr l 1)) ++ runsL (qtr l 2))).size + (strOfNums (runsL (qtr l 3))).size ≤ 9223372036854775807 := by rw [strOfNums_size, strOfNums_size, List.length_append, List.length_append]; omega
    refine Ev.step (fun k => by simp only [spec_l14Row.j0, Bool.false_eq_true, if_false]; rfl) ?_
    have c1 : (16 : Int) ≤ (l.length : Int) := by omega
    have c2 : (32 : Int) ≤ (l.length : Int) := by omega
    have c3 : (48 : Int) ≤ (l.length : Int) := by omega
    simp only [c1, c2, c3, if_true, show (16 : Int) ≤ 32 from by decide, show (32 : Int) ≤ 48 from by decide, take16, drop48 hl]
    refine Ev.bind (hq 0 (by omega)) (Ev.bind (hq 1 (by omega)) ?_)
    simp only [e1, if_true, strOfNums_append]
    refine Ev.bind (hq 2 (by omega)) ?_
    simp only [e2, if_true, strOfNums_append]
    refine Ev.bind (hq 3 (by omega)) ?_
    simp only [e3, if_true, strOfNums_append]
    have : qrows l 4 = ((runsL (qtr l 0) ++ runsL (qtr l 1)) ++ runsL (qtr l 2)) ++ runsL (qtr l 3) := by simp [qrows]
    rw [this]
    exact Ev.now _
  cases large <;> cases ex
  · simpa using h2
  · simpa using h1
  · simpa using h1
  · simpa using h1
def lrv (l : List Int) (q : Int) (large ex : Bool) : ByteArray × Bool := if (levB l && condB q large ex) = true then (strOfNums (lrL l large ex), true) else (⟨#[]⟩, false)
theorem levB_iff {l : List Int} : levB l = true ↔ l.length = 64 ∧ allB (-5000) 5000 l = true := by unfold levB; rw [Bool.and_eq_true, decide_eq_true_eq]
theorem levelsrow_ev (l : List Int) (a : Bool) (q : Int) (large ex : Bool) (hl : l.length ≤ 17592186043904) : Ev (fun k => impl_LevelsRow.f k l a q large ex) (lrv l q large ex) := by
  unfold impl_LevelsRow.f lrv
  refine Ev.bind (levels_ev l hl) ?_
  by_cases c : levB l = true
  · simp only [c, if_true, Bool.true_and, cond_val, Option.bind_some]
    by_cases c2 : condB q large ex = true
    · simp only [c2, if_true]
      exact Ev.bind (lr_ev l a q large ex (levB_iff.1 c).1 (levB_iff.1 c).2) (Ev.now _)
    · simp only [c2, if_false]; exact Ev.now _
  · simp only [c, if_false, Bool.and_eq_true, false_and]; exact Ev.now _
theorem slevelsrow_ev (l : List Int) (a : Bool) (q : Int) (large ex : Bool) (hl : l.length ≤ 17592186043904) : Ev (fun k => spec_LevelsRow.f k l a q large ex) (lrv l q large ex) := by
  unfold spec_LevelsRow.f lrv
  simp only [scond_val, Option.bind_some]
  by_cases c2 : condB q large ex = true
  · simp only [c2, if_true, Bool.and_true]
    refine Ev.bind (slevels_ev l hl) ?_
    by_cases c : levB l = true
    · simp only [c, if_true]
      exact Ev.bind (slr_ev l a q large ex (levB_iff.1 c).1 (levB_iff.1 c).2) (Ev.now _)
    · simp only [c, if_false]; exact Ev.now _
  · simp only [c2, Bool.false_eq_true, if_false, Bool.and_eq_true, and_false]; exact Ev.now _

theorem FnExactLevelsRow : laws_FnExactLevelsRow.Pure := by
  intro l a q large ex _ hl _ _
  refine Ev.rounds ?_
  unfold laws_FnExactLevelsRow.f laws_toCond.f
  by_cases c : (l.length : Int) > 1048576
  · simp only [c, if_true]; exact Ev.now _
  · simp only [c, if_false, Option.bind_some]
    have hT := toInts_ev l (by omega)
    have hS := slevelsrow_ev l a q large ex (by omega)
    have hI := levelsrow_ev l a q large ex (by omega)
    generalize lrv l q large ex = v at hS hI
    have hE := eqInts_ev l l (by omega)
    repeat' (first
      | exact Ev.now _
      | (refine Ev.bind (by assumption) ?_)
      | (simp only [if_true, if_false, bne_self_eq_false, decide_true, Bool.false_eq_true])
      | (refine Ev.step (fun k => by simp only [laws_FnExactLevelsRow.j0]; rfl) ?_))

end Go.Proofs.Ytoenibjkjohbbaa.Pure
