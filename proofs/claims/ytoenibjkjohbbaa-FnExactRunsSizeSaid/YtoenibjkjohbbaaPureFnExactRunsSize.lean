/- The program's RunsSize answers what the reference's RunsSize answers, for all lists, and leaves its argument as it was. No condition beside the row's own. -/
import Derived.Test.YtoenibjkjohbbaaQFnExactRunsSizex3
namespace Go.Proofs.Ytoenibjkjohbbaa.Pure
open Go.RowKit Go.Proofs.Ytoenibjkjohbbaa.QFnExactRunsSize Go.Proofs.YtoenibjkjohbbaaW.PrintWords Go.Proofs.YtoenibjkjohbbaaW.PrintLast Go.Proofs.YtoenibjkjohbbaaW.PrintMore
set_option linter.unusedVariables false
set_option linter.unusedSimpArgs false

theorem wrap_id {x : Int} (h0 : -9223372036854775808 ≤ x) (h1 : x ≤ 9223372036854775807) : wrap64 x = x := by
  unfold wrap64
  omega
theorem wf64 {n : Int} (h : (Lit.int .i64 n).wf = true) : -9223372036854775808 ≤ n ∧ n ≤ 9223372036854775807 := by
  simp [Lit.wf, IntKind.min, IntKind.max, IntKind.signed, IntKind.bits] at h
  omega
theorem wfu8 {n : Int} (h : (Lit.int .u8 n).wf = true) : 0 ≤ n ∧ n ≤ 255 := by
  simp [Lit.wf, IntKind.min, IntKind.max, IntKind.signed, IntKind.bits] at h
  omega
theorem within_eq (a b c : Int) : impl_within.f a b c = some (decide (b ≤ a ∧ a ≤ c)) := by
  unfold impl_within.f
  by_cases h : a ≥ b
  · rw [if_pos h]; congr 1; rw [decide_eq_decide]; omega
  · rw [if_neg h]; congr 1; symm; rw [decide_eq_false_iff_not]; omega
theorem in_eq (a b c : Int) : spec_l01In.f a b c = some (decide (b ≤ a ∧ a ≤ c)) := by
  unfold spec_l01In.f
  by_cases h : a ≥ b
  · rw [if_pos h]; congr 1; rw [decide_eq_decide]; omega
  · rw [if_neg h]; congr 1; symm; rw [decide_eq_false_iff_not]; omega

theorem down {P : Nat → Prop} (n : Nat) (h0 : P n) (hs : ∀ i, i < n → P (i + 1) → P i) : ∀ i, i ≤ n → P i := by
  intro i hi
  obtain ⟨d, hd⟩ : ∃ d, d = n - i := ⟨_, rfl⟩
  induction d generalizing i with
  | zero => have : i = n := by omega
            subst this; exact h0
  | succ d ih => exact hs i (by omega) (ih (i + 1) (by omega) (by omega))
theorem rd_nat (l : List Int) (i : Nat) (h : i < l.length) : rd l (i : Int) = l[i] := by
  unfold rd
  rw [List.getD_eq_getElem?_getD, Int.toNat_natCast, List.getElem?_eq_getElem h]; rfl
theorem cast1 (i : Nat) : ((i : Nat) : Int) + 1 = ((i + 1 : Nat) : Int) := rfl
theorem mix_set {α : Type} (l z : List α) (i : Nat) (hi : i < l.length) (hz : i < z.length) : (l.take i ++ z.drop i).set i l[i] = l.take (i + 1) ++ z.drop (i + 1) := by
  rw [List.set_append_right _ _ (by simp; omega)]
  rw [show i - (l.take i).length = 0 by simp; omega]
  rw [List.drop_eq_getElem_cons hz, List.set_cons_zero, List.take_succ_eq_append_getElem hi, List.append_assoc]; rfl
theorem mix_length {α : Type} (l z : List α) (i : Nat) (h : l.length = z.length) (hi : i ≤ l.length) : (l.take i ++ z.drop i).length = l.length := by
  simp; omega
theorem mix_end {α : Type} (l z : List α) (h : l.length = z.length) : l.take l.length ++ z.drop l.length = l := by
  rw [List.take_length, h, List.drop_length, List.append_nil]
theorem mix_zero {α : Type} (l z : List α) : l.take 0 ++ z.drop 0 = z := by simp
theorem drop_cons {α : Type} {l : List α} {i : Nat} (h : i < l.length) : l.drop i = l[i] :: l.drop (i + 1) := List.drop_eq_getElem_cons h
theorem toInts_ev (l : List Int) (hl : l.length ≤ 17592186043904) : Ev (fun k => laws_toIntS.f k l) l := by
  have H : ∀ i, i ≤ l.length → Ev (fun k => laws_toIntS.l0 k l (l.take i ++ (List.replicate l.length (0 : Int)).drop i) (i : Int)) l := by
    refine down l.length ?_ ?_
    · refine Ev.step (f := fun _ => some l) (fun k => ?_) (Ev.now _)
      simp only [laws_toIntS.l0]
      rw [if_neg (by omega), mix_end _ _ (by simp)]
    · intro i hi h
      refine Ev.step (fun k => ?_) h
      simp only [laws_toIntS.l0]
      rw [if_pos (by omega), if_pos (by omega), if_pos (by rw [mix_length _ _ _ (by simp) (by omega)]; omega), rd_nat l i hi, Int.toNat_natCast, mix_set _ _ _ hi (by simp; exact hi), wrap_id (by omega) (by omega), cast1]
  have h0 := H 0 (by omega)
  rw [mix_zero] at h0
  unfold laws_toIntS.f
  refine Ev.congr (fun k => ?_) h0
  rw [if_pos (by omega), if_pos (by simp; omega), Int.toNat_natCast]; rfl
theorem eqInts_ev (a b : List Int) (ha : a.length ≤ 17592186043904) : Ev (fun k => laws_eqIntS.f k a b) (decide (a = b)) := by
  by_cases hl : a.length = b.length
  · have H : ∀ i, i ≤ a.length → Ev (fun k => laws_eqIntS.l0 k a b (i : Int)) (decide (a.drop i = b.drop i)) := by
      refine down a.length ?_ ?_
      · refine Ev.step (f := fun _ => some true) (fun k => ?_) ?_
        · simp only [laws_eqIntS.l0]
          rw [if_neg (by omega)]
        · rw [show decide (a.drop a.length = b.drop a.length) = true by rw [hl]; simp [← hl]]; exact Ev.now _
      · intro i hi h
        have hb : i < b.length := by omega
        by_cases c : a[i] = b[i]
        · have e : decide (a.drop i = b.drop i) = decide (a.drop (i + 1) = b.drop (i + 1)) := by
            rw [decide_eq_decide, drop_cons hi, drop_cons hb, c, List.cons.injEq]; simp only [true_and]
          rw [e]
          refine Ev.step (fun k => ?_) h
          simp only [laws_eqIntS.l0]
          rw [if_pos (by omega), if_pos (by omega), if_pos (by omega), rd_nat a i hi, rd_nat b i hb, if_pos c, wrap_id (by omega) (by omega), cast1]
        · have e : decide (a.drop i = b.drop i) = false := by
            rw [decide_eq_false_iff_not, drop_cons hi, drop_cons hb, List.cons.injEq]; exact fun h => c h.1
          rw [e]
          refine Ev.step (f := fun _ => some false) (fun k => ?_) (Ev.now _)
          simp only [laws_eqIntS.l0]
          rw [if_pos (by omega), if_pos (by omega), if_pos (by omega), rd_nat a i hi, rd_nat b i hb, if_neg c]
    have h0 := H 0 (by omega)
    unfold laws_eqIntS.f
    refine Ev.congr (fun k => ?_) h0
    rw [if_pos (by omega)]; rfl
  · unfold laws_eqIntS.f
    rw [show decide (a = b) = false from decide_eq_false (fun h => hl (by rw [h]))]
    refine Ev.congr (f := fun _ => some false) (fun k => ?_) (Ev.now _)
    rw [if_neg (by omega)]
/-- All numbers of a list are from lo to hi. -/
def allB (lo hi : Int) (l : List Int) : Bool := l.all fun x => decide (lo ≤ x ∧ x ≤ hi)
theorem allB_cons (lo hi x : Int) (l : List Int) : allB lo hi (x :: l) = (decide (lo ≤ x ∧ x ≤ hi) && allB lo hi l) := rfl
theorem allB_iff {lo hi : Int} {l : List Int} : allB lo hi l = true ↔ ∀ x ∈ l, lo ≤ x ∧ x ≤ hi := by
  unfold allB
  rw [List.all_eq_true]
  simp only [decide_eq_true_eq]
theorem areIn_ev (l : List Int) (n lo hi : Int) (hl : l.length ≤ 17592186043904) : Ev (fun k => impl_areIn.f k l n lo hi) (decide ((l.length : Int) = n) && allB lo hi l) := by
  have H : ∀ i, i ≤ l.length → Ev (fun k => impl_areIn.l0 k l n lo hi l (l.length : Int) (i : Int)) (decide ((l.length : Int) = n) && allB lo hi (l.drop i)) := by
    refine down l.length ?_ ?_
    · refine Ev.step (f := fun _ => some (decide ((l.length : Int) = n))) (fun k => ?_) ?_
      · simp only [impl_areIn.l0]
        rw [if_neg (by omega)]; congr 1
      · rw [List.drop_length]; simp only [allB, List.all_nil, Bool.and_true]; exact Ev.now _
    · intro i h1 h
      rw [drop_cons h1, allB_cons]
      by_cases c : lo ≤ l[i] ∧ l[i] ≤ hi
      · rw [decide_eq_true c, Bool.true_and]
        refine Ev.step (fun k => ?_) h
        simp only [impl_areIn.l0]
        rw [if_pos (by omega), if_pos (by omega), if_pos (by omega), rd_nat l i h1, within_eq, Option.bind_some, if_pos (decide_eq_true c), wrap_id (by omega) (by omega), cast1]
      · rw [decide_eq_false c, Bool.false_and, Bool.and_false]
        refine Ev.step (f := fun _ => some false) (fun k => ?_) (Ev.now _)
        simp only [impl_areIn.l0]
        rw [if_pos (by omega), if_pos (by omega), if_pos (by omega), rd_nat l i h1, within_eq, Option.bind_some, if_neg (by simpa using c)]
  exact H 0 (by omega)
theorem all_ev (l : List Int) (n m : Int) (hl : l.length ≤ 17592186043904) (hm : 0 ≤ m) (hm' : m ≤ 1000000000) : Ev (fun k => spec_l09All.f k l n m) (decide ((l.length : Int) = n) && allB (-m) m l) := by
  unfold spec_l09All.f
  by_cases hn : (l.length : Int) = n
  · subst hn
    have H : ∀ i, i ≤ l.length → Ev (fun k => spec_l09All.l0 k l (l.length : Int) m (i : Int)) (allB (-m) m (l.drop i)) := by
      refine down l.length ?_ ?_
      · refine Ev.step (f := fun _ => some true) (fun k => ?_) ?_
        · simp only [spec_l09All.l0]
          rw [if_neg (by omega)]
        · rw [List.drop_length]; exact Ev.now _
      · intro i h1 h
        rw [drop_cons h1, allB_cons]
        by_cases c : -m ≤ l[i] ∧ l[i] ≤ m
        · rw [decide_eq_true c, Bool.true_and]
          refine Ev.step (fun k => ?_) h
          simp only [spec_l09All.l0]
          rw [if_pos (by omega), if_pos (by omega), if_pos (by omega), rd_nat l i h1, wrap_id (x := -m) (by omega) (by omega), in_eq, Option.bind_some, if_pos (decide_eq_true c), wrap_id (by omega) (by omega), cast1]
        · rw [decide_eq_false c, Bool.false_and]
          refine Ev.step (f := fun _ => some false) (fun k => ?_) (Ev.now _)
          simp only [spec_l09All.l0]
          rw [if_pos (by omega), if_pos (by omega), if_pos (by omega), rd_nat l i h1, wrap_id (x := -m) (by omega) (by omega), in_eq, Option.bind_some, if_neg (by simpa using c)]
    refine Ev.congr (fun k => by rw [if_pos rfl]) ?_
    rw [decide_eq_true rfl, Bool.true_and]
    exact H 0 (by omega)
  · rw [decide_eq_false hn, Bool.false_and]
    exact Ev.congr (f := fun _ => some false) (fun k => by rw [if_neg hn]) (Ev.now _)

theorem getElem_rep {n i : Nat} {v : Int} (h : i < (List.replicate n v).length) : (List.replicate n v)[i] = v := List.getElem_replicate h
theorem long_ev (n : Nat) (v : Int) (hn : n ≤ 281474976710656) : Ev (fun k => spec_l01Long.f k (n : Int) v) (strOfNums (List.replicate n v)) := by
  have H : ∀ i, i ≤ n → Ev (fun k => spec_l01Long.l0 k (n : Int) v ((List.replicate n v).take i ++ (List.replicate n (0 : Int)).drop i) (i : Int)) (strOfNums (List.replicate n v)) := by
    refine down n ?_ ?_
    · refine Ev.step (f := fun _ => some (strOfNums (List.replicate n v))) (fun k => ?_) (Ev.now _)
      have := mix_end (List.replicate n v) (List.replicate n (0 : Int)) (by simp)
      rw [List.length_replicate] at this
      simp only [spec_l01Long.l0]
      rw [if_neg (by omega), this]
    · intro i hi h
      refine Ev.step (fun k => ?_) h
      have hl : i < (List.replicate n v).length := by simp; exact hi
      have e := mix_set (List.replicate n v) (List.replicate n (0 : Int)) i hl (by simp; exact hi)
      rw [getElem_rep] at e
      simp only [spec_l01Long.l0]
      rw [if_pos (by omega), if_pos (by omega), if_pos (by rw [mix_length _ _ _ (by simp) (by omega)]; omega), Int.toNat_natCast, e, wrap_id (by omega) (by omega), cast1]
  have h0 := H 0 (by omega)
  rw [mix_zero] at h0
  unfold spec_l01Long.f
  refine Ev.congr (fun k => ?_) h0
  rw [if_pos (by omega), if_pos (by rw [Int.toNat_natCast]; exact hn), Int.toNat_natCast]; rfl

/-- How many binary figures a number has (at most w are looked at). -/
def figsF : Nat → Nat → Nat
  | 0, _ => 0
  | w + 1, x => if x = 0 then 0 else figsF w (x / 2) + 1
def figs (x : Nat) : Nat := figsF 64 x
/-- The last w binary figures of x, as the signs 48 and 49. -/
def fixL (x : Nat) : Nat → List Int
  | 0 => []
  | w + 1 => fixL (x / 2) w ++ [48 + ((x % 2 : Nat) : Int)]
def ueL (n : Nat) : List Int := fixL (n + 1) (2 * figs (n + 1) - 1)
theorem fixL_len (w : Nat) : ∀ x, (fixL x w).length = w := by
  induction w with
  | zero => intro x; rfl
  | succ w ih => intro x; simp [fixL, ih]
theorem figsF_lt (w : Nat) : ∀ x, x < 2 ^ w → ∀ v, w ≤ v → figsF v x = figsF w x := by
  induction w with
  | zero =>
    intro x hx v _
    have : x = 0 := by simpa using hx
    subst this
    cases v with
    | zero => rfl
    | succ v => simp [figsF]
  | succ w ih =>
    intro x hx v hv
    obtain ⟨v, rfl⟩ : ∃ m, v = m + 1 := ⟨v - 1, by omega⟩
    simp only [figsF]
    by_cases h0 : x = 0
    · rw [if_pos h0, if_pos h0]
    · rw [if_neg h0, if_neg h0, ih (x / 2) (by rw [Nat.pow_succ] at hx; omega) v (by omega)]
theorem figsF_le (w : Nat) : ∀ x, figsF w x ≤ w := by
  induction w with
  | zero => intro x; simp [figsF]
  | succ w ih =>
    intro x
    simp only [figsF]
    split
    · omega
    · have := ih (x / 2); omega
theorem figs_le (x : Nat) : figs x ≤ 64 := figsF_le 64 x
theorem figs_half {x : Nat} (h0 : 0 < x) (h : x < 2 ^ 64) : figs x = figs (x / 2) + 1 := by
  unfold figs
  rw [show figsF 64 x = figsF 63 (x / 2) + 1 by rw [show (64 : Nat) = 63 + 1 from rfl]; simp only [figsF]; rw [if_neg (by omega)]]
  rw [figsF_lt 63 (x / 2) (by omega) 64 (by omega)]
theorem figs_zero : figs 0 = 0 := rfl
theorem figs_pos {x : Nat} (h0 : 0 < x) (h : x < 2 ^ 64) : 0 < figs x := by rw [figs_half h0 h]; omega
theorem fixL_zero (w : Nat) : fixL 0 w = List.replicate w 48 := by
  induction w with
  | zero => rfl
  | succ w ih => simp only [fixL]; rw [ih, List.replicate_succ']; rfl
/-- More width: noughts ahead. -/
theorem fixL_more (w : Nat) : ∀ x, x < 2 ^ 64 → figs x ≤ w → fixL x w = List.replicate (w - figs x) 48 ++ fixL x (figs x) := by
  induction w with
  | zero =>
    intro x hx h
    have : figs x = 0 := by omega
    rw [this]; rfl
  | succ w ih =>
    intro x hx h
    by_cases h0 : x = 0
    · subst h0; rw [fixL_zero, figs_zero]; simp [fixL]
    · have e := figs_half (show 0 < x by omega) hx
      have i := ih (x / 2) (by omega) (by omega)
      have e2 : fixL x (figs x) = fixL (x / 2) (figs (x / 2)) ++ [48 + ((x % 2 : Nat) : Int)] := by rw [e]; rfl
      rw [e2, ← List.append_assoc]
      simp only [fixL]
      rw [i]
      congr 3
      omega
theorem ueL_eq (n : Nat) (h : n + 1 < 2 ^ 64) : ueL n = List.replicate (figs (n + 1) - 1) 48 ++ fixL (n + 1) (figs (n + 1)) := by
  have hp := figs_pos (x := n + 1) (by omega) h
  unfold ueL
  rw [fixL_more _ _ h (by omega)]
  congr 2
  omega
theorem ueL_len (n : Nat) : (ueL n).length ≤ 127 := by
  unfold ueL; rw [fixL_len]
  have := figs_le (n + 1)
  omega
theorem fixL_mem (w : Nat) : ∀ x, ∀ y ∈ fixL x w, y = 48 ∨ y = 49 := by
  induction w with
  | zero => intro x y hy; simp [fixL] at hy
  | succ w ih =>
    intro x y hy
    simp only [fixL, List.mem_append, List.mem_singleton] at hy
    rcases hy with hy | hy
    · exact ih _ y hy
    · omega
theorem ueL_mem (n : Nat) : ∀ y ∈ ueL n, y = 48 ∨ y = 49 := fixL_mem _ _
/-- Signs and counted numbers. -/
def foldN (x : Int) : Nat := if x > 0 then (2 * x - 1).toNat else (-2 * x).toNat
def isnz (x : Int) : Nat := if x = 0 then 0 else 1
def cntN (l : List Int) : Nat := (l.map isnz).sum
def rtL : Nat → List Int → List Int
  | _, [] => []
  | z, x :: l => if x = 0 then rtL (z + 1) l else ueL z ++ (ueL (foldN x) ++ rtL 0 l)
def runsL (l : List Int) : List Int := ueL (cntN l) ++ rtL 0 l
theorem rtL_len : ∀ (l : List Int) (z : Nat), (rtL z l).length ≤ 254 * l.length := by
  intro l
  induction l with
  | nil => intro z; simp [rtL]
  | cons x l ih =>
    intro z
    simp only [rtL]
    split
    · have := ih (z + 1); simp only [List.length_cons]; omega
    · have h1 := ueL_len z
      have h2 := ueL_len (foldN x)
      have h3 := ih 0
      simp only [List.length_append, List.length_cons]; omega
theorem strOfNums_append (a b : List Int) : strOfNums a ++ strOfNums b = strOfNums (a ++ b) := by
  apply ByteArray.ext
  simp [strOfNums, ByteArray.data_append]
theorem strOfNums_nil : strOfNums [] = (⟨#[]⟩ : ByteArray) := rfl
theorem bytesOf_strOfNums {l : List Int} (h : ∀ x ∈ l, 0 ≤ x ∧ x ≤ 255) : bytesOf (strOfNums l) = l := by
  unfold bytesOf
  rw [strOfNums_data, List.map_map]
  conv => rhs; rw [← List.map_id l]
  apply List.map_congr_left
  intro x hx
  have := h x hx
  simp
  omega
theorem tdiv2 {x : Nat} : Int.tdiv (x : Int) 2 = ((x / 2 : Nat) : Int) := by rw [Int.tdiv_eq_ediv_of_nonneg (by omega)]; omega
theorem tmod2 {x : Nat} : Int.tmod (x : Int) 2 = ((x % 2 : Nat) : Int) := by rw [Int.tmod_eq_emod_of_nonneg (by omega)]; omega
theorem sue_loop (w : Nat) : ∀ (x : Nat) (sl : List Int), x < 2 ^ w → w ≤ 63 → sl.length + w ≤ 1000 → 0 < figs x + sl.length →
    Ev (fun k => spec_l03Ue.l0 k (x : Int) (strOfNums sl)) (strOfNums (List.replicate (figs x + sl.length - 1) 48 ++ (fixL x (figs x) ++ sl))) := by
  have hend : ∀ sl : List Int, sl.length ≤ 1000 → 0 < sl.length → Ev (fun k => spec_l03Ue.l0 k ((0 : Nat) : Int) (strOfNums sl)) (strOfNums (List.replicate (figs 0 + sl.length - 1) 48 ++ (fixL 0 (figs 0) ++ sl))) := by
    intro sl hs hp
    have hl := long_ev (figs 0 + sl.length - 1) 48 (by rw [figs_zero]; omega)
    rw [show ((figs 0 + sl.length - 1 : Nat) : Int) = (sl.length : Int) - 1 by rw [figs_zero]; omega] at hl
    refine Ev.step (f := fun k => (spec_l01Long.f k ((sl.length : Int) - 1) 48).bind fun t => (if t.size + (strOfNums sl).size ≤ 9223372036854775807 then (some (t ++ strOfNums sl)) else (none))) (fun k => ?_) (Ev.bind hl ?_)
    · simp only [spec_l03Ue.l0]
      rw [if_neg (by omega), strOfNums_size, wrap_id (by omega) (by omega)]
    · rw [if_pos (by rw [strOfNums_size, strOfNums_size, List.length_replicate, figs_zero]; omega), strOfNums_append]
      exact Ev.now _
  induction w with
  | zero =>
    intro x sl hx _ hs hp
    have : x = 0 := by simpa using hx
    subst this
    exact hend sl (by omega) (by rw [figs_zero] at hp; omega)
  | succ w ih =>
    intro x sl hx hw hs hp
    have h64 : 2 ^ (w + 1) ≤ 2 ^ 64 := Nat.pow_le_pow_right (by decide) (by omega)
    by_cases h0 : x = 0
    · subst h0; exact hend sl (by omega) (by rw [figs_zero] at hp; omega)
    · have e := figs_half (show 0 < x by omega) (by omega)
      have i := ih (x / 2) ([48 + ((x % 2 : Nat) : Int)] ++ sl) (by rw [Nat.pow_succ] at hx; omega) (by omega) (by simp; omega) (by simp; omega)
      have e2 : fixL x (figs x) = fixL (x / 2) (figs (x / 2)) ++ [48 + ((x % 2 : Nat) : Int)] := by rw [e]; rfl
      rw [e2, List.append_assoc]
      rw [show figs x + sl.length - 1 = figs (x / 2) + ([48 + ((x % 2 : Nat) : Int)] ++ sl).length - 1 by simp; omega]
      refine Ev.step (fun k => ?_) i
      have h63 : (x : Int) < 9223372036854775808 := by
        have : 2 ^ (w + 1) ≤ 2 ^ 63 := Nat.pow_le_pow_right (by decide) (by omega)
        omega
      simp only [spec_l03Ue.l0, Option.bind_some]
      rw [if_pos (by omega), tmod2, tdiv2, wrap_id (x := 48 + ((x % 2 : Nat) : Int)) (by omega) (by omega), show (48 + ((x % 2 : Nat) : Int)) % 256 = 48 + ((x % 2 : Nat) : Int) by omega, if_pos (by rw [strOfNums_size, strOfNums_size]; simp; omega), strOfNums_append, wrap_id (by omega) (by omega)]
theorem sue_ev (n : Nat) (hn : n < 1000000000000) : Ev (fun k => spec_l03Ue.f k (n : Int)) (strOfNums (ueL n)) := by
  have hp := figs_pos (x := n + 1) (by omega) (by omega)
  have h := sue_loop 63 (n + 1) [] (by omega) (by omega) (by simp) (by simp; omega)
  unfold spec_l03Ue.f
  rw [ueL_eq n (by omega)]
  rw [List.append_nil, List.length_nil, Nat.add_zero, strOfNums_nil] at h
  refine Ev.congr (fun k => ?_) h
  rw [wrap_id (by omega) (by omega)]; rfl
theorem figs_loop (w : Nat) : ∀ (x c : Nat), x < 2 ^ w → w ≤ 63 → c + w ≤ 1000 → Ev (fun k => impl_figuresOf.l0 k (x : Int) (c : Int)) ((c + figs x : Nat) : Int) := by
  have hend : ∀ c : Nat, Ev (fun k => impl_figuresOf.l0 k ((0 : Nat) : Int) (c : Int)) ((c + figs 0 : Nat) : Int) := fun c =>
    Ev.step (f := fun _ => some ((c + figs 0 : Nat) : Int)) (fun k => by simp only [impl_figuresOf.l0]; rw [if_neg (by omega)]; rfl) (Ev.now _)
  induction w with
  | zero =>
    intro x c hx _ _
    have : x = 0 := by simpa using hx
    subst this; exact hend c
  | succ w ih =>
    intro x c hx hw hc
    have h64 : 2 ^ (w + 1) ≤ 2 ^ 64 := Nat.pow_le_pow_right (by decide) (by omega)
    by_cases h0 : x = 0
    · subst h0; exact hend c
    · have e := figs_half (show 0 < x by omega) (by omega)
      have i := ih (x / 2) (c + 1) (by rw [Nat.pow_succ] at hx; omega) (by omega) (by omega)
      rw [show c + figs x = c + 1 + figs (x / 2) by omega]
      refine Ev.step (fun k => ?_) i
      simp only [impl_figuresOf.l0]
      rw [if_pos (by omega), wrap_id (by omega) (by omega), cast1, show ((x : Int) / 2) = ((x / 2 : Nat) : Int) by omega]
theorem figs_ev (x : Nat) (hx : x < 2 ^ 63) : Ev (fun k => impl_figuresOf.f k (x : Int)) (figs x : Int) := by
  have h := figs_loop 63 x 0 hx (by omega) (by omega)
  rw [Nat.zero_add] at h
  exact h
theorem i64_and1 (x : Nat) (hx : x < 2 ^ 63) : Go.bits .and .i64 (x : Int) 1 = ((x % 2 : Nat) : Int) := by
  have h := bits_mask .i64 63 (by decide) (fun n h0 h1 => by rw [IntKind.wrap_i64]; omega) 1 (by decide) (x : Int) (by omega) (by omega)
  rw [show ((2 : Int) ^ 1 - 1) = 1 from rfl, show ((2 : Int) ^ 1) = 2 from rfl] at h
  rw [h]; omega
theorem rep_set (v : Nat) (d : Int) (tail : List Int) : (List.replicate (v + 1) (0 : Int) ++ tail).set v d = List.replicate v 0 ++ ([d] ++ tail) := by
  rw [List.replicate_succ', List.append_assoc, List.set_append_right _ _ (by simp), show v - (List.replicate v (0 : Int)).length = 0 by simp]
  rfl
theorem signs_loop (v : Nat) : ∀ (x : Nat) (tail : List Int), x < 2 ^ 63 → v ≤ 1000 → Ev (fun k => impl_signs.l0 k (x : Int) (List.replicate v 0 ++ tail) ((v : Int) - 1)) (strOfNums (fixL x v ++ tail)) := by
  induction v with
  | zero =>
    intro x tail _ _
    refine Ev.step (f := fun _ => some (strOfNums tail)) (fun k => ?_) (Ev.now _)
    simp only [impl_signs.l0]
    rw [if_neg (by omega)]; rfl
  | succ v ih =>
    intro x tail hx hv
    have i := ih (x / 2) ([48 + ((x % 2 : Nat) : Int)] ++ tail) (by omega) (by omega)
    rw [show fixL x (v + 1) ++ tail = fixL (x / 2) v ++ ([48 + ((x % 2 : Nat) : Int)] ++ tail) by simp only [fixL]; rw [List.append_assoc]]
    refine Ev.step (fun k => ?_) i
    simp only [impl_signs.l0]
    rw [if_pos (by omega), if_pos (by omega), if_pos (by simp; omega), i64_and1 x hx, wrap_id (x := 48 + ((x % 2 : Nat) : Int)) (by omega) (by omega), show (48 + ((x % 2 : Nat) : Int)) % 256 = 48 + ((x % 2 : Nat) : Int) by omega, show (((v + 1 : Nat) : Int) - 1) = (v : Int) by omega, Int.toNat_natCast, rep_set, show ((x : Int) / 2) = ((x / 2 : Nat) : Int) by omega, wrap_id (by omega) (by omega)]
theorem signs_ev (x w : Nat) (hx : x < 2 ^ 63) (hw : w ≤ 1000) : Ev (fun k => impl_signs.f k (x : Int) (w : Int)) (strOfNums (fixL x w)) := by
  have h := signs_loop w x [] hx hw
  rw [List.append_nil, List.append_nil] at h
  unfold impl_signs.f
  refine Ev.congr (fun k => ?_) h
  rw [if_pos (by omega), if_pos (by rw [Int.toNat_natCast]; omega), Int.toNat_natCast, wrap_id (by omega) (by omega)]
theorem ue_ev (n : Nat) (hn : n < 1000000000000) : Ev (fun k => impl_ue.f k (n : Int)) (strOfNums (ueL n)) := by
  have hp := figs_pos (x := n + 1) (by omega) (by omega)
  have hle := figs_le (n + 1)
  have h1 := figs_ev (n + 1) (by omega)
  have h2 := signs_ev (n + 1) (2 * figs (n + 1) - 1) (by omega) (by omega)
  unfold impl_ue.f
  refine Ev.congr (f := fun k => (impl_figuresOf.f k ((n + 1 : Nat) : Int)).bind fun t => ((impl_signs.f k ((n + 1 : Nat) : Int) (wrap64 ((wrap64 (2 * t)) - 1))).bind fun t138 => (some t138))) (fun k => by rw [wrap_id (x := (n : Int) + 1) (by omega) (by omega)]; rfl) (Ev.bind h1 ?_)
  rw [wrap_id (x := 2 * (figs (n + 1) : Int)) (by omega) (by omega), wrap_id (by omega) (by omega), show (2 * (figs (n + 1) : Int) - 1) = ((2 * figs (n + 1) - 1 : Nat) : Int) by omega]
  exact Ev.bind h2 (Ev.now _)
theorem fold_lt {x : Int} (h0 : -500000 ≤ x) (h1 : x ≤ 500000) : foldN x ≤ 1000000 := by unfold foldN; split <;> omega
theorem fold_eq (x : Int) (h0 : -500000 ≤ x) (h1 : x ≤ 500000) : impl_FoldSe.f x = some ((foldN x : Int), true) := by
  unfold impl_FoldSe.f foldN
  rw [within_eq, Option.bind_some, if_pos (decide_eq_true ⟨h0, h1⟩)]
  by_cases c : x > 0
  · rw [if_pos c, if_pos c, wrap_id (x := 2 * x) (by omega) (by omega), wrap_id (by omega) (by omega), Int.toNat_of_nonneg (by omega)]
  · rw [if_neg c, if_neg c, wrap_id (by omega) (by omega), Int.toNat_of_nonneg (by omega)]
theorem sfold_eq (x : Int) (h0 : -500000 ≤ x) (h1 : x ≤ 500000) : spec_FoldSe.f x = some ((foldN x : Int), true) := by
  unfold spec_FoldSe.f foldN
  rw [in_eq, Option.bind_some, if_pos (decide_eq_true ⟨h0, h1⟩)]
  by_cases c : x > 0
  · rw [if_pos c, if_pos c, wrap_id (x := 2 * x) (by omega) (by omega), wrap_id (by omega) (by omega), Int.toNat_of_nonneg (by omega)]
  · rw [if_neg c, if_neg c, wrap_id (by omega) (by omega), Int.toNat_of_nonneg (by omega)]
theorem sse_ev (x : Int) (h0 : -500000 ≤ x) (h1 : x ≤ 500000) : Ev (fun k => spec_l03Se.f k x) (strOfNums (ueL (foldN x))) := by
  unfold spec_l03Se.f
  rw [sfold_eq x h0 h1]
  simp only [Option.bind_some]
  exact Ev.bind (sue_ev _ (by have := fold_lt h0 h1; omega)) (Ev.now _)
theorem cntN_cons (x : Int) (l : List Int) : cntN (x :: l) = isnz x + cntN l := by simp [cntN]
theorem cntN_le (l : List Int) : cntN l ≤ l.length := by
  induction l with
  | nil => simp [cntN]
  | cons x l ih => rw [cntN_cons]; unfold isnz; simp only [List.length_cons]; split <;> omega
theorem bytes_row {l : List Int} (h : ∀ y ∈ l, y = 48 ∨ y = 49) : bytesOf (strOfNums l) = l :=
  bytesOf_strOfNums fun x hx => by rcases h x hx with e | e <;> omega
theorem runs_l1 (l : List Int) (hl : l.length ≤ 64) (hb : allB (-5000) 5000 l = true) :
    ∀ i : Nat, i ≤ l.length → ∀ (out : List Int) (z : Nat), out.length ≤ 300 * i + 300 → z ≤ i → Ev (fun k => impl_runs.l1 k out (z : Int) l (l.length : Int) (i : Int)) (out ++ rtL z (l.drop i)) := by
  refine down l.length ?_ ?_
  · intro out z _ _
    rw [List.drop_length, rtL, List.append_nil]
    refine Ev.step (f := fun _ => some out) (fun k => ?_) (Ev.now _)
    simp only [impl_runs.l1]
    rw [if_neg (by omega)]
  · intro i hi h out z ho hz
    have hm := allB_iff.1 hb _ (List.getElem_mem hi)
    rw [drop_cons hi]
    by_cases c : l[i] = 0
    · have h' := h out (z + 1) (by omega) (by omega)
      rw [rtL, if_pos c]
      refine Ev.step (fun k => ?_) h'
      simp only [impl_runs.l1]
      rw [if_pos (by omega), if_pos (by omega), if_pos (by omega), rd_nat l i hi, if_pos c, wrap_id (x := (z : Int) + 1) (by omega) (by omega), wrap_id (by omega) (by omega), cast1, cast1]
    · have lz := ueL_len z
      have lf := ueL_len (foldN l[i])
      have h' := h (out ++ ueL z ++ ueL (foldN l[i])) 0 (by simp only [List.length_append]; omega) (by omega)
      have hu := ue_ev z (by omega)
      have hf := ue_ev (foldN l[i]) (by have := fold_lt (x := l[i]) (by omega) (by omega); omega)
      rw [rtL, if_neg c]
      rw [show out ++ (ueL z ++ (ueL (foldN l[i]) ++ rtL 0 (l.drop (i + 1)))) = out ++ ueL z ++ ueL (foldN l[i]) ++ rtL 0 (l.drop (i + 1)) by simp only [List.append_assoc]]
      refine Ev.step (f := fun k => (impl_ue.f k (z : Int)).bind fun t151 => (if out.length + t151.size < 140737488355328 then ((some (out ++ bytesOf t151 : List Int)).bind fun y152 => ((impl_ue.f k (foldN l[i] : Int)).bind fun t155 => (if y152.length + t155.size < 140737488355328 then (impl_runs.l1 k (y152 ++ bytesOf t155) 0 l (l.length : Int) ((i + 1 : Nat) : Int)) else (none)))) else (none))) (fun k => ?_) (Ev.bind hu ?_)
      · simp only [impl_runs.l1]
        rw [if_pos (by omega), if_pos (by omega), if_pos (by omega), rd_nat l i hi, if_neg c, fold_eq _ (by omega) (by omega), Option.bind_some, wrap_id (x := (i : Int) + 1) (by omega) (by omega), cast1]
      · rw [bytes_row (ueL_mem z)]
        have e1 : out.length + (strOfNums (ueL z)).size < 140737488355328 := by rw [strOfNums_size]; omega
        have e2 : (out ++ ueL z).length + (strOfNums (ueL (foldN l[i]))).size < 140737488355328 := by rw [strOfNums_size, List.length_append]; omega
        simp only [e1, if_true, Option.bind_some]
        refine Ev.bind hf ?_
        simp only [e2, if_true]
        rw [bytes_row (ueL_mem _)]
        exact h'
theorem runs_l0 (l : List Int) (hl : l.length ≤ 64) (hb : allB (-5000) 5000 l = true) :
    ∀ i : Nat, i ≤ l.length → ∀ (c : Nat), c ≤ i → Ev (fun k => impl_runs.l0 k l [] (c : Int) l (l.length : Int) (i : Int)) (ueL (c + cntN (l.drop i)) ++ rtL 0 l) := by
  refine down l.length ?_ ?_
  · intro c hc
    rw [List.drop_length, show cntN [] = 0 from rfl, Nat.add_zero]
    have hu := ue_ev c (by omega)
    have h1 := runs_l1 l hl hb 0 (by omega) (ueL c) 0 (by have := ueL_len c; omega) (by omega)
    rw [List.drop_zero] at h1
    refine Ev.step (f := fun k => (impl_ue.f k (c : Int)).bind fun t144 => (if ([] : List Int).length + t144.size < 140737488355328 then (impl_runs.l1 k ([] ++ bytesOf t144) 0 l (l.length : Int) 0) else (none))) (fun k => ?_) (Ev.bind hu ?_)
    · simp only [impl_runs.l0]
      rw [if_neg (by omega)]
    · rw [bytes_row (ueL_mem c)]
      have e1 : ([] : List Int).length + (strOfNums (ueL c)).size < 140737488355328 := by rw [strOfNums_size]; have := ueL_len c; simp; omega
      simp only [e1, if_true, List.nil_append]
      exact h1
  · intro i hi h c hc
    rw [drop_cons hi, cntN_cons]
    by_cases c0 : l[i] = 0
    · have h' := h c (by omega)
      rw [show isnz l[i] = 0 by unfold isnz; rw [if_pos c0], Nat.zero_add]
      refine Ev.step (fun k => ?_) h'
      simp only [impl_runs.l0]
      rw [if_pos (by omega), if_pos (by omega), if_pos (by omega), rd_nat l i hi, if_pos c0, wrap_id (by omega) (by omega), cast1]
    · have h' := h (c + 1) (by omega)
      rw [show isnz l[i] = 1 by unfold isnz; rw [if_neg c0], ← Nat.add_assoc]
      refine Ev.step (fun k => ?_) h'
      simp only [impl_runs.l0]
      rw [if_pos (by omega), if_pos (by omega), if_pos (by omega), rd_nat l i hi, if_neg c0, wrap_id (x := (c : Int) + 1) (by omega) (by omega), wrap_id (by omega) (by omega), cast1, cast1]
theorem runs_ev (l : List Int) (hl : l.length ≤ 64) (hb : allB (-5000) 5000 l = true) : Ev (fun k => impl_runs.f k l) (runsL l) := by
  have h := runs_l0 l hl hb 0 (by omega) 0 (by omega)
  rw [List.drop_zero, Nat.zero_add] at h
  exact h
theorem sruns_loop (l : List Int) (hl : l.length ≤ 64) (hb : allB (-5000) 5000 l = true) :
    ∀ i : Nat, i ≤ l.length → ∀ (c z : Nat) (out : List Int), c ≤ i → z ≤ i → out.length ≤ 300 * i → Ev (fun k => spec_l11Runs.l0 k l (c : Int) (z : Int) (strOfNums out) (i : Int)) (strOfNums (ueL (c + cntN (l.drop i)) ++ (out ++ rtL z (l.drop i)))) := by
  refine down l.length ?_ ?_
  · intro c z out hc hz ho
    rw [List.drop_length, show cntN [] = 0 from rfl, Nat.add_zero, rtL, List.append_nil]
    have hu := sue_ev c (by omega)
    have := ueL_len c
    refine Ev.step (f := fun k => (spec_l03Ue.f k (c : Int)).bind fun t122 => (if t122.size + (strOfNums out).size ≤ 9223372036854775807 then (some (t122 ++ strOfNums out)) else (none))) (fun k => ?_) (Ev.bind hu ?_)
    · simp only [spec_l11Runs.l0]
      rw [if_neg (by omega)]
    · rw [if_pos (by rw [strOfNums_size, strOfNums_size]; omega), strOfNums_append]
      exact Ev.now _
  · intro i hi h c z out hc hz ho
    have hm := allB_iff.1 hb _ (List.getElem_mem hi)
    rw [drop_cons hi, cntN_cons]
    by_cases c0 : l[i] = 0
    · have h' := h c (z + 1) out (by omega) (by omega) (by omega)
      rw [show isnz l[i] = 0 by unfold isnz; rw [if_pos c0], Nat.zero_add, rtL, if_pos c0]
      refine Ev.step (fun k => ?_) h'
      simp only [spec_l11Runs.l0]
      rw [if_pos (by omega), if_pos (by omega), rd_nat l i hi, if_pos c0, wrap_id (x := (z : Int) + 1) (by omega) (by omega), wrap_id (by omega) (by omega), cast1, cast1]
    · have lz := ueL_len z
      have lf := ueL_len (foldN l[i])
      have h' := h (c + 1) 0 (out ++ ueL z ++ ueL (foldN l[i])) (by omega) (by omega) (by simp only [List.length_append]; omega)
      have hu := sue_ev z (by omega)
      have hf := sse_ev l[i] (by omega) (by omega)
      rw [show isnz l[i] = 1 by unfold isnz; rw [if_neg c0], ← Nat.add_assoc, rtL, if_neg c0]
      rw [show out ++ (ueL z ++ (ueL (foldN l[i]) ++ rtL 0 (l.drop (i + 1)))) = out ++ ueL z ++ ueL (foldN l[i]) ++ rtL 0 (l.drop (i + 1)) by simp only [List.append_assoc]]
      refine Ev.step (f := fun k => (spec_l03Ue.f k (z : Int)).bind fun t124 => (if (strOfNums out).size + t124.size ≤ 9223372036854775807 then ((spec_l03Se.f k l[i]).bind fun t126 => (if (strOfNums out ++ t124).size + t126.size ≤ 9223372036854775807 then (spec_l11Runs.l0 k l ((c + 1 : Nat) : Int) 0 ((strOfNums out ++ t124) ++ t126) ((i + 1 : Nat) : Int)) else (none))) else (none))) (fun k => ?_) (Ev.bind hu ?_)
      · simp only [spec_l11Runs.l0]
        rw [if_pos (by omega), if_pos (by omega), rd_nat l i hi, if_neg c0, wrap_id (x := (c : Int) + 1) (by omega) (by omega), wrap_id (x := (i : Int) + 1) (by omega) (by omega), cast1, cast1]
      · rw [strOfNums_append]
        have e1 : (strOfNums out).size + (strOfNums (ueL z)).size ≤ 9223372036854775807 := by rw [strOfNums_size, strOfNums_size]; omega
        have e2 : (strOfNums (out ++ ueL z)).size + (strOfNums (ueL (foldN l[i]))).size ≤ 9223372036854775807 := by rw [strOfNums_size, strOfNums_size, List.length_append]; omega
        simp only [e1, if_true]
        refine Ev.bind hf ?_
        simp only [e2, if_true]
        rw [strOfNums_append]
        exact h'
theorem sruns_ev (l : List Int) (hl : l.length ≤ 64) (hb : allB (-5000) 5000 l = true) : Ev (fun k => spec_l11Runs.f k l) (strOfNums (runsL l)) := by
  have h := sruns_loop l hl hb 0 (by omega) 0 0 [] (by omega) (by omega) (by simp)
  rw [List.drop_zero, Nat.zero_add, List.nil_append] at h
  exact h

def RROk (l : List Int) : Prop := (l.length = 16 ∨ l.length = 64) ∧ allB (-5000) 5000 l = true
instance (l : List Int) : Decidable (RROk l) := by unfold RROk; infer_instance
def rrv (l : List Int) : ByteArray × Bool := if RROk l then (strOfNums (runsL l), true) else (⟨#[]⟩, false)
theorem runsrow_ev (l : List Int) (hl : l.length ≤ 17592186043904) : Ev (fun k => impl_RunsRow.f k l) (rrv l) := by
  unfold impl_RunsRow.f rrv
  have hA := areIn_ev l (l.length : Int) (-5000) 5000 hl
  rw [decide_eq_true rfl, Bool.true_and] at hA
  have core : (l.length = 16 ∨ l.length = 64) → Ev (fun k => (impl_areIn.f k l (l.length : Int) (-5000) 5000).bind fun t => (if t = true then ((impl_runs.f k l).bind fun t160 => (some (strOfNums t160, true))) else (some ((⟨#[]⟩ : ByteArray), false)))) (if RROk l then (strOfNums (runsL l), true) else (⟨#[]⟩, false)) := by
    intro h
    refine Ev.bind hA ?_
    by_cases c : allB (-5000) 5000 l = true
    · rw [if_pos ⟨h, c⟩]
      simp only [c, if_true]
      exact Ev.bind (runs_ev l (by omega) c) (Ev.now _)
    · rw [if_neg (fun h' => c h'.2)]
      simp only [c, if_false]; exact Ev.now _
  by_cases c1 : (l.length : Int) = 16
  · simp only [if_pos c1]; exact core (by omega)
  · by_cases c2 : (l.length : Int) = 64
    · simp only [if_neg c1, if_pos c2]; exact core (by omega)
    · rw [if_neg (fun h' => by rcases h'.1 with e | e <;> omega)]
      simp only [if_neg c1, if_neg c2]; exact Ev.now _
theorem srunsrow_ev (l : List Int) (hl : l.length ≤ 17592186043904) : Ev (fun k => spec_RunsRow.f k l) (rrv l) := by
  unfold spec_RunsRow.f rrv
  have hA := all_ev l (l.length : Int) 5000 hl (by omega) (by omega)
  rw [decide_eq_true rfl, Bool.true_and] at hA
  have core : (l.length = 16 ∨ l.length = 64) → Ev (fun k => (spec_l09All.f k l (l.length : Int) 5000).bind fun t => (if t = true then ((spec_l11Runs.f k l).bind fun t160 => (some (t160, true))) else (some ((⟨#[]⟩ : ByteArray), false)))) (if RROk l then (strOfNums (runsL l), true) else (⟨#[]⟩, false)) := by
    intro h
    refine Ev.bind hA ?_
    by_cases c : allB (-5000) 5000 l = true
    · rw [if_pos ⟨h, c⟩]
      simp only [c, if_true]
      exact Ev.bind (sruns_ev l (by omega) c) (Ev.now _)
    · rw [if_neg (fun h' => c h'.2)]
      simp only [c, if_false]; exact Ev.now _
  by_cases c1 : (l.length : Int) = 16
  · simp only [if_pos c1]; exact core (by omega)
  · by_cases c2 : (l.length : Int) = 64
    · simp only [if_neg c1, if_pos c2]; exact core (by omega)
    · rw [if_neg (fun h' => by rcases h'.1 with e | e <;> omega)]
      simp only [if_neg c1, if_neg c2]; exact Ev.now _

theorem FnExactRunsSize : laws_FnExactRunsSize.Pure := by
  intro l _ hl _
  refine Ev.rounds ?_
  unfold laws_FnExactRunsSize.f impl_RunsSize.f spec_RunsSize.f
  by_cases c : (l.length : Int) > 1048576
  · simp only [c, if_true]; exact Ev.now _
  · simp only [c, if_false]
    have hT := toInts_ev l (by omega)
    have hS : Ev (fun k => (spec_RunsRow.f k l).bind fun t => some ((t.1.size : Nat) : Int)) (((rrv l).1.size : Nat) : Int) := Ev.bind (srunsrow_ev l (by omega)) (Ev.now _)
    have hI : Ev (fun k => (impl_RunsRow.f k l).bind fun t => some ((t.1.size : Nat) : Int)) (((rrv l).1.size : Nat) : Int) := Ev.bind (runsrow_ev l (by omega)) (Ev.now _)
    have hE := eqInts_ev l l (by omega)
    refine Ev.bind hT (Ev.bind hS (Ev.bind hT (Ev.bind hI ?_)))
    simp only [if_true]
    refine Ev.bind hT (Ev.bind hE ?_)
    simp only [decide_true, if_true]
    exact Ev.now _

end Go.Proofs.Ytoenibjkjohbbaa.Pure
