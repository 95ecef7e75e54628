/- The program's TileRow answers what the reference's TileRow answers, for all lists of squares and all conditions, and leaves its argument as it was. No condition beside the row's own. -/
import Derived.Test.YtlmlkoalicjlhaaQFnExactTileRowx10
namespace Go.Proofs.Ytlmlkoalicjlhaa.Pure
open Go.RowKit Go.Proofs.Ytlmlkoalicjlhaa.QFnExactTileRow Go.Proofs.YtlmlkoalicjlhaaW.PrintWords Go.Proofs.YtlmlkoalicjlhaaW.PrintLast Go.Proofs.YtlmlkoalicjlhaaW.PrintMore
set_option linter.unusedVariables false
set_option linter.unusedSimpArgs false
theorem wrap_id {x : Int} (h0 : -9223372036854775808 ≤ x) (h1 : x ≤ 9223372036854775807) : wrap64 x = x := by
 unfold wrap64
 omega
theorem within_eq (a b c : Int) : impl_within.f a b c = some (decide (b ≤ a ∧ a ≤ c)) := by
 unfold impl_within.f
 by_cases h : a ≥ b
 ·rw [if_pos h]; congr 1; rw [decide_eq_decide]; omega
 ·rw [if_neg h]; congr 1; symm; rw [decide_eq_false_iff_not]; omega
theorem in_eq (a b c : Int) : spec_l01In.f a b c = some (decide (b ≤ a ∧ a ≤ c)) := by
 unfold spec_l01In.f
 by_cases h : a ≥ b
 ·rw [if_pos h]; congr 1; rw [decide_eq_decide]; omega
 ·rw [if_neg h]; congr 1; symm; rw [decide_eq_false_iff_not]; omega
theorem down {P : Nat → Prop} (n : Nat) (h0 : P n) (hs : ∀ i, i < n → P (i + 1) → P i) : ∀ i, i ≤ n → P i := by
 intro i hi
 obtain ⟨d, hd⟩ : ∃ d, d = n - i := ⟨_, rfl⟩
 induction d generalizing i with
 | zero =>
  have : i = n := by omega
  subst this; exact h0
 | succ d ih => exact hs i (by omega) (ih (i + 1) (by omega) (by omega))
theorem rd_nat (l : List Int) (i : Nat) (h : i < l.length) : rd l (i : Int) = l[i] := by
 unfold rd
 rw [List.getD_eq_getElem?_getD, Int.toNat_natCast, List.getElem?_eq_getElem h]; rfl
theorem cast1 (i : Nat) : ((i : Nat) : Int) + 1 = ((i + 1 : Nat) : Int) := rfl
theorem mix_set {α : Type} (l z : List α) (i : Nat) (hi : i < l.length) (hz : i < z.length) : (l.take i ++ z.drop i).set i l[i] = l.take (i + 1) ++ z.drop (i + 1) := by
 rw [List.set_append_right _ _ (by simp; omega)]
 rw [show i - (l.take i).length = 0 by simp; omega]
 rw [List.drop_eq_getElem_cons hz, List.set_cons_zero, List.take_succ_eq_append_getElem hi, List.append_assoc]; rfl
theorem mix_length {α : Type} (l z : List α) (i : Nat) (h : l.length = z.length) (hi : i ≤ l.length) : (l.take i ++ z.drop i).length = l.length := by
 simp; omega
theorem mix_end {α : Type} (l z : List α) (h : l.length = z.length) : l.take l.length ++ z.drop l.length = l := by
 rw [List.take_length, h, List.drop_length, List.append_nil]
theorem mix_zero {α : Type} (l z : List α) : l.take 0 ++ z.drop 0 = z := by simp
theorem drop_cons {α : Type} {l : List α} {i : Nat} (h : i < l.length) : l.drop i = l[i] :: l.drop (i + 1) := List.drop_eq_getElem_cons h
theorem toInts_ev (l : List Int) (hl : l.length ≤ 17592186043904) : Ev (fun k => laws_toIntS.f k l) l := by
 have H : ∀ i, i ≤ l.length → Ev (fun k => laws_toIntS.l0 k l (l.take i ++ (List.replicate l.length (0 : Int)).drop i) (i : Int)) l := by
  refine down l.length ?_ ?_
  ·refine Ev.step (f := fun _ => some l) (fun k => ?_) (Ev.now _)
   simp only [laws_toIntS.l0]
   rw [if_neg (by omega), mix_end _ _ (by simp)]
  ·intro i hi h
   refine Ev.step (fun k => ?_) h
   simp only [laws_toIntS.l0]
   rw [if_pos (by omega), if_pos (by omega), if_pos (by rw [mix_length _ _ _ (by simp) (by omega)]; omega), rd_nat l i hi, Int.toNat_natCast, mix_set _ _ _ hi (by simp; exact hi), wrap_id (by omega) (by omega), cast1]
 have h0 := H 0 (by omega)
 rw [mix_zero] at h0
 unfold laws_toIntS.f
 refine Ev.congr (fun k => ?_) h0
 rw [if_pos (by omega), if_pos (by simp; omega), Int.toNat_natCast]; rfl
theorem eqInts_ev (a b : List Int) (ha : a.length ≤ 17592186043904) : Ev (fun k => laws_eqIntS.f k a b) (decide (a = b)) := by
 by_cases hl : a.length = b.length
 ·have H : ∀ i, i ≤ a.length → Ev (fun k => laws_eqIntS.l0 k a b (i : Int)) (decide (a.drop i = b.drop i)) := by
   refine down a.length ?_ ?_
   ·refine Ev.step (f := fun _ => some true) (fun k => ?_) ?_
    ·simp only [laws_eqIntS.l0]
     rw [if_neg (by omega)]
    ·rw [show decide (a.drop a.length = b.drop a.length) = true by rw [hl]; simp [← hl]]; exact Ev.now _
   ·intro i hi h
    have hb : i < b.length := by omega
    by_cases c : a[i] = b[i]
    ·have e : decide (a.drop i = b.drop i) = decide (a.drop (i + 1) = b.drop (i + 1)) := by
      rw [decide_eq_decide, drop_cons hi, drop_cons hb, c, List.cons.injEq]; simp only [true_and]
     rw [e]
     refine Ev.step (fun k => ?_) h
     simp only [laws_eqIntS.l0]
     rw [if_pos (by omega), if_pos (by omega), if_pos (by omega), rd_nat a i hi, rd_nat b i hb, if_pos c, wrap_id (by omega) (by omega), cast1]
    ·have e : decide (a.drop i = b.drop i) = false := by
      rw [decide_eq_false_iff_not, drop_cons hi, drop_cons hb, List.cons.injEq]; exact fun h => c h.1
     rw [e]
     refine Ev.step (f := fun _ => some false) (fun k => ?_) (Ev.now _)
     simp only [laws_eqIntS.l0]
     rw [if_pos (by omega), if_pos (by omega), if_pos (by omega), rd_nat a i hi, rd_nat b i hb, if_neg c]
  have h0 := H 0 (by omega)
  unfold laws_eqIntS.f
  refine Ev.congr (fun k => ?_) h0
  rw [if_pos (by omega)]; rfl
 ·unfold laws_eqIntS.f
  rw [show decide (a = b) = false from decide_eq_false (fun h => hl (by rw [h]))]
  refine Ev.congr (f := fun _ => some false) (fun k => ?_) (Ev.now _)
  rw [if_neg (by omega)]
/-- All numbers of a list are from lo to hi. -/
def allB (lo hi : Int) (l : List Int) : Bool := l.all fun x => decide (lo ≤ x ∧ x ≤ hi)
theorem allB_cons (lo hi x : Int) (l : List Int) : allB lo hi (x :: l) = (decide (lo ≤ x ∧ x ≤ hi) && allB lo hi l) := rfl
theorem allB_iff {lo hi : Int} {l : List Int} : allB lo hi l = true ↔ ∀ x ∈ l, lo ≤ x ∧ x ≤ hi := by
 unfold allB
 rw [List.all_eq_true]
 simp only [decide_eq_true_eq]
theorem areIn_ev (l : List Int) (n lo hi : Int) (hl : l.length ≤ 17592186043904) : Ev (fun k => impl_areIn.f k l n lo hi) (decide ((l.length : Int) = n) && allB lo hi l) := by
 have H : ∀ i, i ≤ l.length → Ev (fun k => impl_areIn.l0 k l n lo hi l (l.length : Int) (i : Int)) (decide ((l.length : Int) = n) && allB lo hi (l.drop i)) := by
  refine down l.length ?_ ?_
  ·refine Ev.step (f := fun _ => some (decide ((l.length : Int) = n))) (fun k => ?_) ?_
   ·simp only [impl_areIn.l0]
    rw [if_neg (by omega)]; congr 1
   ·rw [List.drop_length]; simp only [allB, List.all_nil, Bool.and_true]; exact Ev.now _
  ·intro i h1 h
   rw [drop_cons h1, allB_cons]
   by_cases c : lo ≤ l[i] ∧ l[i] ≤ hi
   ·rw [decide_eq_true c, Bool.true_and]
    refine Ev.step (fun k => ?_) h
    simp only [impl_areIn.l0]
    rw [if_pos (by omega), if_pos (by omega), if_pos (by omega), rd_nat l i h1, within_eq, Option.bind_some, if_pos (decide_eq_true c), wrap_id (by omega) (by omega), cast1]
   ·rw [decide_eq_false c, Bool.false_and, Bool.and_false]
    refine Ev.step (f := fun _ => some false) (fun k => ?_) (Ev.now _)
    simp only [impl_areIn.l0]
    rw [if_pos (by omega), if_pos (by omega), if_pos (by omega), rd_nat l i h1, within_eq, Option.bind_some, if_neg (by simpa using c)]
 exact H 0 (by omega)
theorem all_ev (l : List Int) (n m : Int) (hl : l.length ≤ 17592186043904) (hm : 0 ≤ m) (hm' : m ≤ 1000000000) : Ev (fun k => spec_l09All.f k l n m) (decide ((l.length : Int) = n) && allB (-m) m l) := by
 unfold spec_l09All.f
 by_cases hn : (l.length : Int) = n
 ·subst hn
  have H : ∀ i, i ≤ l.length → Ev (fun k => spec_l09All.l0 k l (l.length : Int) m (i : Int)) (allB (-m) m (l.drop i)) := by
   refine down l.length ?_ ?_
   ·refine Ev.step (f := fun _ => some true) (fun k => ?_) ?_
    ·simp only [spec_l09All.l0]
     rw [if_neg (by omega)]
    ·rw [List.drop_length]; exact Ev.now _
   ·intro i h1 h
    rw [drop_cons h1, allB_cons]
    by_cases c : -m ≤ l[i] ∧ l[i] ≤ m
    ·rw [decide_eq_true c, Bool.true_and]
     refine Ev.step (fun k => ?_) h
     simp only [spec_l09All.l0]
     rw [if_pos (by omega), if_pos (by omega), if_pos (by omega), rd_nat l i h1, wrap_id (x := -m) (by omega) (by omega), in_eq, Option.bind_some, if_pos (decide_eq_true c), wrap_id (by omega) (by omega), cast1]
    ·rw [decide_eq_false c, Bool.false_and]
     refine Ev.step (f := fun _ => some false) (fun k => ?_) (Ev.now _)
     simp only [spec_l09All.l0]
     rw [if_pos (by omega), if_pos (by omega), if_pos (by omega), rd_nat l i h1, wrap_id (x := -m) (by omega) (by omega), in_eq, Option.bind_some, if_neg (by simpa using c)]
  refine Ev.congr (fun k => by rw [if_pos rfl]) ?_
  rw [decide_eq_true rfl, Bool.true_and]
  exact H 0 (by omega)
 ·rw [decide_eq_false hn, Bool.false_and]
  exact Ev.congr (f := fun _ => some false) (fun k => by rw [if_neg hn]) (Ev.now _)
theorem getElem_rep {n i : Nat} {v : Int} (h : i < (List.replicate n v).length) : (List.replicate n v)[i] = v := List.getElem_replicate h
theorem long_ev (n : Nat) (v : Int) (hn : n ≤ 281474976710656) : Ev (fun k => spec_l01Long.f k (n : Int) v) (strOfNums (List.replicate n v)) := by
 have H : ∀ i, i ≤ n → Ev (fun k => spec_l01Long.l0 k (n : Int) v ((List.replicate n v).take i ++ (List.replicate n (0 : Int)).drop i) (i : Int)) (strOfNums (List.replicate n v)) := by
  refine down n ?_ ?_
  ·refine Ev.step (f := fun _ => some (strOfNums (List.replicate n v))) (fun k => ?_) (Ev.now _)
   have := mix_end (List.replicate n v) (List.replicate n (0 : Int)) (by simp)
   rw [List.length_replicate] at this
   simp only [spec_l01Long.l0]
   rw [if_neg (by omega), this]
  ·intro i hi h
   refine Ev.step (fun k => ?_) h
   have hl : i < (List.replicate n v).length := by simp; exact hi
   have e := mix_set (List.replicate n v) (List.replicate n (0 : Int)) i hl (by simp; exact hi)
   rw [getElem_rep] at e
   simp only [spec_l01Long.l0]
   rw [if_pos (by omega), if_pos (by omega), if_pos (by rw [mix_length _ _ _ (by simp) (by omega)]; omega), Int.toNat_natCast, e, wrap_id (by omega) (by omega), cast1]
 have h0 := H 0 (by omega)
 rw [mix_zero] at h0
 unfold spec_l01Long.f
 refine Ev.congr (fun k => ?_) h0
 rw [if_pos (by omega), if_pos (by rw [Int.toNat_natCast]; exact hn), Int.toNat_natCast]; rfl
/-- How many binary figures a number has (at most w are looked at). -/
def figsF : Nat → Nat → Nat
 | 0, _ => 0
 | w + 1, x => if x = 0 then 0 else figsF w (x / 2) + 1
def figs (x : Nat) : Nat := figsF 64 x
/-- The last w binary figures of x, as the signs 48 and 49. -/
def fixL (x : Nat) : Nat → List Int
 | 0 => []
 | w + 1 => fixL (x / 2) w ++ [48 + ((x % 2 : Nat) : Int)]
def ueL (n : Nat) : List Int := fixL (n + 1) (2 * figs (n + 1) - 1)
theorem fixL_len (w : Nat) : ∀ x, (fixL x w).length = w := by
 induction w with
 | zero => intro x; rfl
 | succ w ih => intro x; simp [fixL, ih]
theorem figsF_lt (w : Nat) : ∀ x, x < 2 ^ w → ∀ v, w ≤ v → figsF v x = figsF w x := by
 induction w with
 | zero =>
  intro x hx v _
  have : x = 0 := by simpa using hx
  subst this
  cases v with
  | zero => rfl
  | succ v => simp [figsF]
 | succ w ih =>
  intro x hx v hv
  obtain ⟨v, rfl⟩ : ∃ m, v = m + 1 := ⟨v - 1, by omega⟩
  simp only [figsF]
  by_cases h0 : x = 0
  ·rw [if_pos h0, if_pos h0]
  ·rw [if_neg h0, if_neg h0, ih (x / 2) (by rw [Nat.pow_succ] at hx; omega) v (by omega)]
theorem figsF_le (w : Nat) : ∀ x, figsF w x ≤ w := by
 induction w with
 | zero => intro x; simp [figsF]
 | succ w ih =>
  intro x
  simp only [figsF]
  split
  ·omega
  ·have := ih (x / 2); omega
theorem figs_le (x : Nat) : figs x ≤ 64 := figsF_le 64 x
theorem figs_half {x : Nat} (h0 : 0 < x) (h : x < 2 ^ 64) : figs x = figs (x / 2) + 1 := by
 unfold figs
 rw [show figsF 64 x = figsF 63 (x / 2) + 1 by rw [show (64 : Nat) = 63 + 1 from rfl]; simp only [figsF]; rw [if_neg (by omega)]]
 rw [figsF_lt 63 (x / 2) (by omega) 64 (by omega)]
theorem figs_zero : figs 0 = 0 := rfl
theorem figs_pos {x : Nat} (h0 : 0 < x) (h : x < 2 ^ 64) : 0 < figs x := by rw [figs_half h0 h]; omega
theorem fixL_zero (w : Nat) : fixL 0 w = List.replicate w 48 := by
 induction w with
 | zero => rfl
 | succ w ih => simp only [fixL]; rw [ih, List.replicate_succ']; rfl
/-- More width: noughts ahead. -/
theorem fixL_more (w : Nat) : ∀ x, x < 2 ^ 64 → figs x ≤ w → fixL x w = List.replicate (w - figs x) 48 ++ fixL x (figs x) := by
 induction w with
 | zero =>
  intro x hx h
  have : figs x = 0 := by omega
  rw [this]; rfl
 | succ w ih =>
  intro x hx h
  by_cases h0 : x = 0
  ·subst h0; rw [fixL_zero, figs_zero]; simp [fixL]
  ·have e := figs_half (show 0 < x by omega) hx
   have i := ih (x / 2) (by omega) (by omega)
   have e2 : fixL x (figs x) = fixL (x / 2) (figs (x / 2)) ++ [48 + ((x % 2 : Nat) : Int)] := by rw [e]; rfl
   rw [e2, ← List.append_assoc]
   simp only [fixL]
   rw [i]
   congr 3
   omega
theorem ueL_eq (n : Nat) (h : n + 1 < 2 ^ 64) : ueL n = List.replicate (figs (n + 1) - 1) 48 ++ fixL (n + 1) (figs (n + 1)) := by
 have hp := figs_pos (x := n + 1) (by omega) h
 unfold ueL
 rw [fixL_more _ _ h (by omega)]
 congr 2
 omega
theorem ueL_len (n : Nat) : (ueL n).length ≤ 127 := by
 unfold ueL; rw [fixL_len]
 have := figs_le (n + 1)
 omega
theorem fixL_mem (w : Nat) : ∀ x, ∀ y ∈ fixL x w, y = 48 ∨ y = 49 := by
 induction w with
 | zero => intro x y hy; simp [fixL] at hy
 | succ w ih =>
  intro x y hy
  simp only [fixL, List.mem_append, List.mem_singleton] at hy
  rcases hy with hy | hy
  ·exact ih _ y hy
  ·omega
theorem ueL_mem (n : Nat) : ∀ y ∈ ueL n, y = 48 ∨ y = 49 := fixL_mem _ _
/-- Signs and counted numbers. -/
def foldN (x : Int) : Nat := if x > 0 then (2 * x - 1).toNat else (-2 * x).toNat
def isnz (x : Int) : Nat := if x = 0 then 0 else 1
def cntN (l : List Int) : Nat := (l.map isnz).sum
def rtL : Nat → List Int → List Int
 | _, [] => []
 | z, x :: l => if x = 0 then rtL (z + 1) l else ueL z ++ (ueL (foldN x) ++ rtL 0 l)
def runsL (l : List Int) : List Int := ueL (cntN l) ++ rtL 0 l
theorem rtL_len : ∀ (l : List Int) (z : Nat), (rtL z l).length ≤ 254 * l.length := by
 intro l
 induction l with
 | nil => intro z; simp [rtL]
 | cons x l ih =>
  intro z
  simp only [rtL]
  split
  ·have := ih (z + 1); simp only [List.length_cons]; omega
  ·have h1 := ueL_len z
   have h2 := ueL_len (foldN x)
   have h3 := ih 0
   simp only [List.length_append, List.length_cons]; omega
theorem strOfNums_append (a b : List Int) : strOfNums a ++ strOfNums b = strOfNums (a ++ b) := by
 apply ByteArray.ext
 simp [strOfNums, ByteArray.data_append]
theorem strOfNums_nil : strOfNums [] = (⟨#[]⟩ : ByteArray) := rfl
theorem bytesOf_strOfNums {l : List Int} (h : ∀ x ∈ l, 0 ≤ x ∧ x ≤ 255) : bytesOf (strOfNums l) = l := by
 unfold bytesOf
 rw [strOfNums_data, List.map_map]
 conv => rhs; rw [← List.map_id l]
 apply List.map_congr_left
 intro x hx
 have := h x hx
 simp
 omega
theorem tdiv2 {x : Nat} : Int.tdiv (x : Int) 2 = ((x / 2 : Nat) : Int) := by rw [Int.tdiv_eq_ediv_of_nonneg (by omega)]; omega
theorem tmod2 {x : Nat} : Int.tmod (x : Int) 2 = ((x % 2 : Nat) : Int) := by rw [Int.tmod_eq_emod_of_nonneg (by omega)]; omega
theorem sue_loop (w : Nat) : ∀ (x : Nat) (sl : List Int), x < 2 ^ w → w ≤ 63 → sl.length + w ≤ 1000 → 0 < figs x + sl.length →
  Ev (fun k => spec_l03Ue.l0 k (x : Int) (strOfNums sl)) (strOfNums (List.replicate (figs x + sl.length - 1) 48 ++ (fixL x (figs x) ++ sl))) := by
 have hend : ∀ sl : List Int, sl.length ≤ 1000 → 0 < sl.length → Ev (fun k => spec_l03Ue.l0 k ((0 : Nat) : Int) (strOfNums sl)) (strOfNums (List.replicate (figs 0 + sl.length - 1) 48 ++ (fixL 0 (figs 0) ++ sl))) := by
  intro sl hs hp
  have hl := long_ev (figs 0 + sl.length - 1) 48 (by rw [figs_zero]; omega)
  rw [show ((figs 0 + sl.length - 1 : Nat) : Int) = (sl.length : Int) - 1 by rw [figs_zero]; omega] at hl
  refine Ev.step (f := fun k => (spec_l01Long.f k ((sl.length : Int) - 1) 48).bind fun t => (if t.size + (strOfNums sl).size ≤ 9223372036854775807 then (some (t ++ strOfNums sl)) else (none))) (fun k => ?_) (Ev.bind hl ?_)
  ·simp only [spec_l03Ue.l0]
   rw [if_neg (by omega), strOfNums_size, wrap_id (by omega) (by omega)]
  ·rw [if_pos (by rw [strOfNums_size, strOfNums_size, List.length_replicate, figs_zero]; omega), strOfNums_append]
   exact Ev.now _
 induction w with
 | zero =>
  intro x sl hx _ hs hp
  have : x = 0 := by simpa using hx
  subst this
  exact hend sl (by omega) (by rw [figs_zero] at hp; omega)
 | succ w ih =>
  intro x sl hx hw hs hp
  have h64 : 2 ^ (w + 1) ≤ 2 ^ 64 := Nat.pow_le_pow_right (by decide) (by omega)
  by_cases h0 : x = 0
  ·subst h0; exact hend sl (by omega) (by rw [figs_zero] at hp; omega)
  ·have e := figs_half (show 0 < x by omega) (by omega)
   have i := ih (x / 2) ([48 + ((x % 2 : Nat) : Int)] ++ sl) (by rw [Nat.pow_succ] at hx; omega) (by omega) (by simp; omega) (by simp; omega)
   have e2 : fixL x (figs x) = fixL (x / 2) (figs (x / 2)) ++ [48 + ((x % 2 : Nat) : Int)] := by rw [e]; rfl
   rw [e2, List.append_assoc]
   rw [show figs x + sl.length - 1 = figs (x / 2) + ([48 + ((x % 2 : Nat) : Int)] ++ sl).length - 1 by simp; omega]
   refine Ev.step (fun k => ?_) i
   have h63 : (x : Int) < 9223372036854775808 := by
    have : 2 ^ (w + 1) ≤ 2 ^ 63 := Nat.pow_le_pow_right (by decide) (by omega)
    omega
   simp only [spec_l03Ue.l0, Option.bind_some]
   rw [if_pos (by omega), tmod2, tdiv2, wrap_id (x := 48 + ((x % 2 : Nat) : Int)) (by omega) (by omega), show (48 + ((x % 2 : Nat) : Int)) % 256 = 48 + ((x % 2 : Nat) : Int) by omega, if_pos (by rw [strOfNums_size, strOfNums_size]; simp; omega), strOfNums_append, wrap_id (by omega) (by omega)]
theorem sue_ev (n : Nat) (hn : n < 1000000000000) : Ev (fun k => spec_l03Ue.f k (n : Int)) (strOfNums (ueL n)) := by
 have hp := figs_pos (x := n + 1) (by omega) (by omega)
 have h := sue_loop 63 (n + 1) [] (by omega) (by omega) (by simp) (by simp; omega)
 unfold spec_l03Ue.f
 rw [ueL_eq n (by omega)]
 rw [List.append_nil, List.length_nil, Nat.add_zero, strOfNums_nil] at h
 refine Ev.congr (fun k => ?_) h
 rw [wrap_id (by omega) (by omega)]; rfl
theorem figs_loop (w : Nat) : ∀ (x c : Nat), x < 2 ^ w → w ≤ 63 → c + w ≤ 1000 → Ev (fun k => impl_figuresOf.l0 k (x : Int) (c : Int)) ((c + figs x : Nat) : Int) := by
 have hend : ∀ c : Nat, Ev (fun k => impl_figuresOf.l0 k ((0 : Nat) : Int) (c : Int)) ((c + figs 0 : Nat) : Int) := fun c =>
  Ev.step (f := fun _ => some ((c + figs 0 : Nat) : Int)) (fun k => by simp only [impl_figuresOf.l0]; rw [if_neg (by omega)]; rfl) (Ev.now _)
 induction w with
 | zero =>
  intro x c hx _ _
  have : x = 0 := by simpa using hx
  subst this; exact hend c
 | succ w ih =>
  intro x c hx hw hc
  have h64 : 2 ^ (w + 1) ≤ 2 ^ 64 := Nat.pow_le_pow_right (by decide) (by omega)
  by_cases h0 : x = 0
  ·subst h0; exact hend c
  ·have e := figs_half (show 0 < x by omega) (by omega)
   have i := ih (x / 2) (c + 1) (by rw [Nat.pow_succ] at hx; omega) (by omega) (by omega)
   rw [show c + figs x = c + 1 + figs (x / 2) by omega]
   refine Ev.step (fun k => ?_) i
   simp only [impl_figuresOf.l0]
   rw [if_pos (by omega), wrap_id (by omega) (by omega), cast1, show ((x : Int) / 2) = ((x / 2 : Nat) : Int) by omega]
theorem figs_ev (x : Nat) (hx : x < 2 ^ 63) : Ev (fun k => impl_figuresOf.f k (x : Int)) (figs x : Int) := by
 have h := figs_loop 63 x 0 hx (by omega) (by omega)
 rw [Nat.zero_add] at h
 exact h
theorem i64_and1 (x : Nat) (hx : x < 2 ^ 63) : Go.bits .and .i64 (x : Int) 1 = ((x % 2 : Nat) : Int) := by
 have h := bits_mask .i64 63 (by decide) (fun n h0 h1 => by rw [IntKind.wrap_i64]; omega) 1 (by decide) (x : Int) (by omega) (by omega)
 rw [show ((2 : Int) ^ 1 - 1) = 1 from rfl, show ((2 : Int) ^ 1) = 2 from rfl] at h
 rw [h]; omega
theorem rep_set (v : Nat) (d : Int) (tail : List Int) : (List.replicate (v + 1) (0 : Int) ++ tail).set v d = List.replicate v 0 ++ ([d] ++ tail) := by
 rw [List.replicate_succ', List.append_assoc, List.set_append_right _ _ (by simp), show v - (List.replicate v (0 : Int)).length = 0 by simp]
 rfl
theorem signs_loop (v : Nat) : ∀ (x : Nat) (tail : List Int), x < 2 ^ 63 → v ≤ 1000 → Ev (fun k => impl_signs.l0 k (x : Int) (List.replicate v 0 ++ tail) ((v : Int) - 1)) (strOfNums (fixL x v ++ tail)) := by
 induction v with
 | zero =>
  intro x tail _ _
  refine Ev.step (f := fun _ => some (strOfNums tail)) (fun k => ?_) (Ev.now _)
  simp only [impl_signs.l0]
  rw [if_neg (by omega)]; rfl
 | succ v ih =>
  intro x tail hx hv
  have i := ih (x / 2) ([48 + ((x % 2 : Nat) : Int)] ++ tail) (by omega) (by omega)
  rw [show fixL x (v + 1) ++ tail = fixL (x / 2) v ++ ([48 + ((x % 2 : Nat) : Int)] ++ tail) by simp only [fixL]; rw [List.append_assoc]]
  refine Ev.step (fun k => ?_) i
  simp only [impl_signs.l0]
  rw [if_pos (by omega), if_pos (by omega), if_pos (by simp; omega), i64_and1 x hx, wrap_id (x := 48 + ((x % 2 : Nat) : Int)) (by omega) (by omega), show (48 + ((x % 2 : Nat) : Int)) % 256 = 48 + ((x % 2 : Nat) : Int) by omega, show (((v + 1 : Nat) : Int) - 1) = (v : Int) by omega, Int.toNat_natCast, rep_set, show ((x : Int) / 2) = ((x / 2 : Nat) : Int) by omega, wrap_id (by omega) (by omega)]
theorem signs_ev (x w : Nat) (hx : x < 2 ^ 63) (hw : w ≤ 1000) : Ev (fun k => impl_signs.f k (x : Int) (w : Int)) (strOfNums (fixL x w)) := by
 have h := signs_loop w x [] hx hw
 rw [List.append_nil, List.append_nil] at h
 unfold impl_signs.f
 refine Ev.congr (fun k => ?_) h
 rw [if_pos (by omega), if_pos (by rw [Int.toNat_natCast]; omega), Int.toNat_natCast, wrap_id (by omega) (by omega)]
theorem ue_ev (n : Nat) (hn : n < 1000000000000) : Ev (fun k => impl_ue.f k (n : Int)) (strOfNums (ueL n)) := by
 have hp := figs_pos (x := n + 1) (by omega) (by omega)
 have hle := figs_le (n + 1)
 have h1 := figs_ev (n + 1) (by omega)
 have h2 := signs_ev (n + 1) (2 * figs (n + 1) - 1) (by omega) (by omega)
 unfold impl_ue.f
 refine Ev.congr (f := fun k => (impl_figuresOf.f k ((n + 1 : Nat) : Int)).bind fun t => ((impl_signs.f k ((n + 1 : Nat) : Int) (wrap64 ((wrap64 (2 * t)) - 1))).bind fun t138 => (some t138))) (fun k => by rw [wrap_id (x := (n : Int) + 1) (by omega) (by omega)]; rfl) (Ev.bind h1 ?_)
 rw [wrap_id (x := 2 * (figs (n + 1) : Int)) (by omega) (by omega), wrap_id (by omega) (by omega), show (2 * (figs (n + 1) : Int) - 1) = ((2 * figs (n + 1) - 1 : Nat) : Int) by omega]
 exact Ev.bind h2 (Ev.now _)
theorem fold_lt {x : Int} (h0 : -500000 ≤ x) (h1 : x ≤ 500000) : foldN x ≤ 1000000 := by unfold foldN; split <;> omega
theorem fold_eq (x : Int) (h0 : -500000 ≤ x) (h1 : x ≤ 500000) : impl_FoldSe.f x = some ((foldN x : Int), true) := by
 unfold impl_FoldSe.f foldN
 rw [within_eq, Option.bind_some, if_pos (decide_eq_true ⟨h0, h1⟩)]
 by_cases c : x > 0
 ·rw [if_pos c, if_pos c, wrap_id (x := 2 * x) (by omega) (by omega), wrap_id (by omega) (by omega), Int.toNat_of_nonneg (by omega)]
 ·rw [if_neg c, if_neg c, wrap_id (by omega) (by omega), Int.toNat_of_nonneg (by omega)]
theorem sfold_eq (x : Int) (h0 : -500000 ≤ x) (h1 : x ≤ 500000) : spec_FoldSe.f x = some ((foldN x : Int), true) := by
 unfold spec_FoldSe.f foldN
 rw [in_eq, Option.bind_some, if_pos (decide_eq_true ⟨h0, h1⟩)]
 by_cases c : x > 0
 ·rw [if_pos c, if_pos c, wrap_id (x := 2 * x) (by omega) (by omega), wrap_id (by omega) (by omega), Int.toNat_of_nonneg (by omega)]
 ·rw [if_neg c, if_neg c, wrap_id (by omega) (by omega), Int.toNat_of_nonneg (by omega)]
theorem sse_ev (x : Int) (h0 : -500000 ≤ x) (h1 : x ≤ 500000) : Ev (fun k => spec_l03Se.f k x) (strOfNums (ueL (foldN x))) := by
 unfold spec_l03Se.f
 rw [sfold_eq x h0 h1]
 simp only [Option.bind_some]
 exact Ev.bind (sue_ev _ (by have := fold_lt h0 h1; omega)) (Ev.now _)
theorem cntN_cons (x : Int) (l : List Int) : cntN (x :: l) = isnz x + cntN l := by simp [cntN]
theorem bytes_row {l : List Int} (h : ∀ y ∈ l, y = 48 ∨ y = 49) : bytesOf (strOfNums l) = l :=
 bytesOf_strOfNums fun x hx => by rcases h x hx with e | e <;> omega
theorem runs_l1 (l : List Int) (hl : l.length ≤ 64) (hb : allB (-5000) 5000 l = true) :
  ∀ i : Nat, i ≤ l.length → ∀ (out : List Int) (z : Nat), out.length ≤ 300 * i + 300 → z ≤ i → Ev (fun k => impl_runs.l1 k out (z : Int) l (l.length : Int) (i : Int)) (out ++ rtL z (l.drop i)) := by
 refine down l.length ?_ ?_
 ·intro out z _ _
  rw [List.drop_length, rtL, List.append_nil]
  refine Ev.step (f := fun _ => some out) (fun k => ?_) (Ev.now _)
  simp only [impl_runs.l1]
  rw [if_neg (by omega)]
 ·intro i hi h out z ho hz
  have hm := allB_iff.1 hb _ (List.getElem_mem hi)
  rw [drop_cons hi]
  by_cases c : l[i] = 0
  ·have h' := h out (z + 1) (by omega) (by omega)
   rw [rtL, if_pos c]
   refine Ev.step (fun k => ?_) h'
   simp only [impl_runs.l1]
   rw [if_pos (by omega), if_pos (by omega), if_pos (by omega), rd_nat l i hi, if_pos c, wrap_id (x := (z : Int) + 1) (by omega) (by omega), wrap_id (by omega) (by omega), cast1, cast1]
  ·have lz := ueL_len z
   have lf := ueL_len (foldN l[i])
   have h' := h (out ++ ueL z ++ ueL (foldN l[i])) 0 (by simp only [List.length_append]; omega) (by omega)
   have hu := ue_ev z (by omega)
   have hf := ue_ev (foldN l[i]) (by have := fold_lt (x := l[i]) (by omega) (by omega); omega)
   rw [rtL, if_neg c]
   rw [show out ++ (ueL z ++ (ueL (foldN l[i]) ++ rtL 0 (l.drop (i + 1)))) = out ++ ueL z ++ ueL (foldN l[i]) ++ rtL 0 (l.drop (i + 1)) by simp only [List.append_assoc]]
   refine Ev.step (f := fun k => (impl_ue.f k (z : Int)).bind fun t151 => (if out.length + t151.size < 140737488355328 then ((some (out ++ bytesOf t151 : List Int)).bind fun y152 => ((impl_ue.f k (foldN l[i] : Int)).bind fun t155 => (if y152.length + t155.size < 140737488355328 then (impl_runs.l1 k (y152 ++ bytesOf t155) 0 l (l.length : Int) ((i + 1 : Nat) : Int)) else (none)))) else (none))) (fun k => ?_) (Ev.bind hu ?_)
   ·simp only [impl_runs.l1]
    rw [if_pos (by omega), if_pos (by omega), if_pos (by omega), rd_nat l i hi, if_neg c, fold_eq _ (by omega) (by omega), Option.bind_some, wrap_id (x := (i : Int) + 1) (by omega) (by omega), cast1]
   ·rw [bytes_row (ueL_mem z)]
    have e1 : out.length + (strOfNums (ueL z)).size < 140737488355328 := by rw [strOfNums_size]; omega
    have e2 : (out ++ ueL z).length + (strOfNums (ueL (foldN l[i]))).size < 140737488355328 := by rw [strOfNums_size, List.length_append]; omega
    simp only [e1, if_true, Option.bind_some]
    refine Ev.bind hf ?_
    simp only [e2, if_true]
    rw [bytes_row (ueL_mem _)]
    exact h'
theorem runs_l0 (l : List Int) (hl : l.length ≤ 64) (hb : allB (-5000) 5000 l = true) :
  ∀ i : Nat, i ≤ l.length → ∀ (c : Nat), c ≤ i → Ev (fun k => impl_runs.l0 k l [] (c : Int) l (l.length : Int) (i : Int)) (ueL (c + cntN (l.drop i)) ++ rtL 0 l) := by
 refine down l.length ?_ ?_
 ·intro c hc
  rw [List.drop_length, show cntN [] = 0 from rfl, Nat.add_zero]
  have hu := ue_ev c (by omega)
  have h1 := runs_l1 l hl hb 0 (by omega) (ueL c) 0 (by have := ueL_len c; omega) (by omega)
  rw [List.drop_zero] at h1
  refine Ev.step (f := fun k => (impl_ue.f k (c : Int)).bind fun t144 => (if ([] : List Int).length + t144.size < 140737488355328 then (impl_runs.l1 k ([] ++ bytesOf t144) 0 l (l.length : Int) 0) else (none))) (fun k => ?_) (Ev.bind hu ?_)
  ·simp only [impl_runs.l0]
   rw [if_neg (by omega)]
  ·rw [bytes_row (ueL_mem c)]
   have e1 : ([] : List Int).length + (strOfNums (ueL c)).size < 140737488355328 := by rw [strOfNums_size]; have := ueL_len c; simp; omega
   simp only [e1, if_true, List.nil_append]
   exact h1
 ·intro i hi h c hc
  rw [drop_cons hi, cntN_cons]
  by_cases c0 : l[i] = 0
  ·have h' := h c (by omega)
   rw [show isnz l[i] = 0 by unfold isnz; rw [if_pos c0], Nat.zero_add]
   refine Ev.step (fun k => ?_) h'
   simp only [impl_runs.l0]
   rw [if_pos (by omega), if_pos (by omega), if_pos (by omega), rd_nat l i hi, if_pos c0, wrap_id (by omega) (by omega), cast1]
  ·have h' := h (c + 1) (by omega)
   rw [show isnz l[i] = 1 by unfold isnz; rw [if_neg c0], ← Nat.add_assoc]
   refine Ev.step (fun k => ?_) h'
   simp only [impl_runs.l0]
   rw [if_pos (by omega), if_pos (by omega), if_pos (by omega), rd_nat l i hi, if_neg c0, wrap_id (x := (c : Int) + 1) (by omega) (by omega), wrap_id (by omega) (by omega), cast1, cast1]
theorem runs_ev (l : List Int) (hl : l.length ≤ 64) (hb : allB (-5000) 5000 l = true) : Ev (fun k => impl_runs.f k l) (runsL l) := by
 have h := runs_l0 l hl hb 0 (by omega) 0 (by omega)
 rw [List.drop_zero, Nat.zero_add] at h
 exact h
theorem sruns_loop (l : List Int) (hl : l.length ≤ 64) (hb : allB (-5000) 5000 l = true) :
  ∀ i : Nat, i ≤ l.length → ∀ (c z : Nat) (out : List Int), c ≤ i → z ≤ i → out.length ≤ 300 * i → Ev (fun k => spec_l11Runs.l0 k l (c : Int) (z : Int) (strOfNums out) (i : Int)) (strOfNums (ueL (c + cntN (l.drop i)) ++ (out ++ rtL z (l.drop i)))) := by
 refine down l.length ?_ ?_
 ·intro c z out hc hz ho
  rw [List.drop_length, show cntN [] = 0 from rfl, Nat.add_zero, rtL, List.append_nil]
  have hu := sue_ev c (by omega)
  have := ueL_len c
  refine Ev.step (f := fun k => (spec_l03Ue.f k (c : Int)).bind fun t122 => (if t122.size + (strOfNums out).size ≤ 9223372036854775807 then (some (t122 ++ strOfNums out)) else (none))) (fun k => ?_) (Ev.bind hu ?_)
  ·simp only [spec_l11Runs.l0]
   rw [if_neg (by omega)]
  ·rw [if_pos (by rw [strOfNums_size, strOfNums_size]; omega), strOfNums_append]
   exact Ev.now _
 ·intro i hi h c z out hc hz ho
  have hm := allB_iff.1 hb _ (List.getElem_mem hi)
  rw [drop_cons hi, cntN_cons]
  by_cases c0 : l[i] = 0
  ·have h' := h c (z + 1) out (by omega) (by omega) (by omega)
   rw [show isnz l[i] = 0 by unfold isnz; rw [if_pos c0], Nat.zero_add, rtL, if_pos c0]
   refine Ev.step (fun k => ?_) h'
   simp only [spec_l11Runs.l0]
   rw [if_pos (by omega), if_pos (by omega), rd_nat l i hi, if_pos c0, wrap_id (x := (z : Int) + 1) (by omega) (by omega), wrap_id (by omega) (by omega), cast1, cast1]
  ·have lz := ueL_len z
   have lf := ueL_len (foldN l[i])
   have h' := h (c + 1) 0 (out ++ ueL z ++ ueL (foldN l[i])) (by omega) (by omega) (by simp only [List.length_append]; omega)
   have hu := sue_ev z (by omega)
   have hf := sse_ev l[i] (by omega) (by omega)
   rw [show isnz l[i] = 1 by unfold isnz; rw [if_neg c0], ← Nat.add_assoc, rtL, if_neg c0]
   rw [show out ++ (ueL z ++ (ueL (foldN l[i]) ++ rtL 0 (l.drop (i + 1)))) = out ++ ueL z ++ ueL (foldN l[i]) ++ rtL 0 (l.drop (i + 1)) by simp only [List.append_assoc]]
   refine Ev.step (f := fun k => (spec_l03Ue.f k (z : Int)).bind fun t124 => (if (strOfNums out).size + t124.size ≤ 9223372036854775807 then ((spec_l03Se.f k l[i]).bind fun t126 => (if (strOfNums out ++ t124).size + t126.size ≤ 9223372036854775807 then (spec_l11Runs.l0 k l ((c + 1 : Nat) : Int) 0 ((strOfNums out ++ t124) ++ t126) ((i + 1 : Nat) : Int)) else (none))) else (none))) (fun k => ?_) (Ev.bind hu ?_)
   ·simp only [spec_l11Runs.l0]
    rw [if_pos (by omega), if_pos (by omega), rd_nat l i hi, if_neg c0, wrap_id (x := (c : Int) + 1) (by omega) (by omega), wrap_id (x := (i : Int) + 1) (by omega) (by omega), cast1, cast1]
   ·rw [strOfNums_append]
    have e1 : (strOfNums out).size + (strOfNums (ueL z)).size ≤ 9223372036854775807 := by rw [strOfNums_size, strOfNums_size]; omega
    have e2 : (strOfNums (out ++ ueL z)).size + (strOfNums (ueL (foldN l[i]))).size ≤ 9223372036854775807 := by rw [strOfNums_size, strOfNums_size, List.length_append]; omega
    simp only [e1, if_true]
    refine Ev.bind hf ?_
    simp only [e2, if_true]
    rw [strOfNums_append]
    exact h'
theorem sruns_ev (l : List Int) (hl : l.length ≤ 64) (hb : allB (-5000) 5000 l = true) : Ev (fun k => spec_l11Runs.f k l) (strOfNums (runsL l)) := by
 have h := sruns_loop l hl hb 0 (by omega) 0 0 [] (by omega) (by omega) (by simp)
 rw [List.drop_zero, Nat.zero_add, List.nil_append] at h
 exact h
def condB (q : Int) (l e : Bool) : Bool := decide (0 ≤ q ∧ q ≤ 40) && !(l && e)
theorem cond_val (a : Bool) (q : Int) (l e : Bool) : impl_CondOk.f a q l e = some (condB q l e) := by
 unfold impl_CondOk.f condB
 rw [within_eq, Option.bind_some]
 by_cases c : 0 ≤ q ∧ q ≤ 40
 ·simp only [c, and_self, decide_true, if_true, Bool.true_and]
  cases l <;> cases e <;> rfl
 ·simp only [c, decide_false, Bool.false_eq_true, if_false, Bool.false_and]
theorem scond_val (a : Bool) (q : Int) (l e : Bool) : spec_CondOk.f a q l e = some (condB q l e) := by
 unfold spec_CondOk.f condB
 rw [in_eq, Option.bind_some]
 by_cases c : 0 ≤ q ∧ q ≤ 40
 ·simp only [c, and_self, decide_true, if_true, Bool.true_and]
  cases l <;> cases e <;> rfl
 ·simp only [c, decide_false, Bool.false_eq_true, if_false, Bool.false_and]
theorem rtL_mem (l : List Int) : ∀ z, ∀ y ∈ rtL z l, y = 48 ∨ y = 49 := by
 induction l with
 | nil => intro z y hy; simp [rtL] at hy
 | cons x l ih =>
  intro z y hy
  rw [rtL] at hy
  by_cases c : x = 0
  ·rw [if_pos c] at hy; exact ih _ y hy
  ·rw [if_neg c] at hy
   rcases List.mem_append.1 hy with h | h
   ·exact ueL_mem _ y h
   ·rcases List.mem_append.1 h with h | h
    ·exact ueL_mem _ y h
    ·exact ih _ y h
theorem runsL_mem (l : List Int) : ∀ y ∈ runsL l, y = 48 ∨ y = 49 := by
 intro y hy
 unfold runsL at hy
 rcases List.mem_append.1 hy with h | h
 ·exact ueL_mem _ y h
 ·exact rtL_mem l 0 y h
theorem len_decs (l : List Int) (n : Nat) (m : Int) (h : m = (n : Int)) : decide ((l.length : Int) = m) = decide (l.length = n) := by rw [decide_eq_decide]; omega
def levB (l : List Int) : Bool := decide (l.length = 64) && allB (-5000) 5000 l
/-- What a right square is. -/
def sqB (kd mode dx dy : Int) (l : List Int) : Bool :=
 if kd = 0 then decide (mode = 0) && (decide (dx = 0) && (decide (dy = 0) && decide (l.length = 0)))
 else if kd = 1 then decide (mode = 0) && (decide (-16 ≤ dx ∧ dx ≤ 16) && (decide (-16 ≤ dy ∧ dy ≤ 16) && levB l))
 else if kd = 2 then decide (0 ≤ mode ∧ mode ≤ 3) && (decide (dx = 0) && (decide (dy = 0) && levB l))
 else false
theorem levels_ev (l : List Int) (hl : l.length ≤ 17592186043904) : Ev (fun k => impl_areLevels.f k l) (levB l) := by
 unfold impl_areLevels.f levB
 have h := areIn_ev l 64 (-5000) 5000 hl
 rw [len_decs l 64 64 rfl] at h
 exact Ev.bind h (Ev.now _)
theorem slevels_ev (l : List Int) (hl : l.length ≤ 17592186043904) : Ev (fun k => spec_l09All.f k l 64 5000) (levB l) := by
 unfold levB
 have h := all_ev l 64 5000 hl (by omega) (by omega)
 rwa [len_decs l 64 64 rfl] at h
theorem len0 (l : List Int) : ((l.length : Int) == 0) = decide (l.length = 0) := by
 rw [Bool.eq_iff_iff, beq_iff_eq, decide_eq_true_eq]; omega
theorem sqok_ev (kd mode dx dy : Int) (l : List Int) (hl : l.length ≤ 17592186043904) : Ev (fun k => impl_SquareOk.f k kd mode dx dy l) (sqB kd mode dx dy l) := by
 have hL := levels_ev l hl
 unfold impl_SquareOk.f sqB
 simp only [within_eq, Option.bind_some, len0]
 by_cases k0 : kd = 0
 ·simp only [if_pos k0]
  by_cases a : mode = 0 <;> by_cases b : dx = 0 <;> by_cases c : dy = 0 <;> simp only [a, b, c, if_true, if_false, decide_true, decide_false, Bool.true_and, Bool.false_and] <;> exact Ev.now _
 ·by_cases k1 : kd = 1
  ·simp only [if_neg k0, if_pos k1]
   by_cases a : mode = 0
   ·by_cases b : -16 ≤ dx ∧ dx ≤ 16
    ·by_cases c : -16 ≤ dy ∧ dy ≤ 16
     ·simp only [a, b, c, and_self, if_true, decide_true, Bool.true_and]
      exact Ev.bind hL (Ev.now _)
     ·simp only [a, b, c, and_self, if_true, decide_true, decide_false, Bool.true_and, Bool.false_and, Bool.false_eq_true, if_false]; exact Ev.now _
    ·simp only [a, b, if_true, decide_true, decide_false, Bool.true_and, Bool.false_and, Bool.false_eq_true, if_false]; exact Ev.now _
   ·simp only [a, decide_false, Bool.false_and, if_false]; exact Ev.now _
  ·by_cases k2 : kd = 2
   ·simp only [if_neg k0, if_neg k1, if_pos k2]
    by_cases a : 0 ≤ mode ∧ mode ≤ 3
    ·by_cases b : dx = 0
     ·by_cases c : dy = 0
      ·simp only [a, b, c, and_self, if_true, decide_true, Bool.true_and]
       exact Ev.bind hL (Ev.now _)
      ·simp only [a, b, c, and_self, if_true, decide_true, decide_false, Bool.true_and, Bool.false_and, Bool.false_eq_true, if_false]; exact Ev.now _
     ·simp only [a, b, and_self, if_true, decide_true, decide_false, Bool.true_and, Bool.false_and, Bool.false_eq_true, if_false]; exact Ev.now _
    ·simp only [a, decide_false, Bool.false_and, Bool.false_eq_true, if_false]; exact Ev.now _
   ·simp only [if_neg k0, if_neg k1, if_neg k2]; exact Ev.now _
theorem ssqok_ev (kd mode dx dy : Int) (l : List Int) (hl : l.length ≤ 17592186043904) : Ev (fun k => spec_SquareOk.f k kd mode dx dy l) (sqB kd mode dx dy l) := by
 have hL := slevels_ev l hl
 unfold spec_SquareOk.f sqB
 simp only [in_eq, Option.bind_some, len0]
 by_cases k0 : kd = 0
 ·simp only [if_pos k0]
  by_cases a : mode = 0 <;> by_cases b : dx = 0 <;> by_cases c : dy = 0 <;> simp only [a, b, c, if_true, if_false, decide_true, decide_false, Bool.true_and, Bool.false_and] <;> exact Ev.now _
 ·by_cases k1 : kd = 1
  ·simp only [if_neg k0, if_pos k1]
   by_cases a : mode = 0
   ·by_cases b : -16 ≤ dx ∧ dx ≤ 16
    ·by_cases c : -16 ≤ dy ∧ dy ≤ 16
     ·simp only [a, b, c, and_self, if_true, decide_true, Bool.true_and]
      exact Ev.bind hL (Ev.now _)
     ·simp only [a, b, c, and_self, if_true, decide_true, decide_false, Bool.true_and, Bool.false_and, Bool.false_eq_true, if_false]; exact Ev.now _
    ·simp only [a, b, if_true, decide_true, decide_false, Bool.true_and, Bool.false_and, Bool.false_eq_true, if_false]; exact Ev.now _
   ·simp only [a, decide_false, Bool.false_and, if_false]; exact Ev.now _
  ·by_cases k2 : kd = 2
   ·simp only [if_neg k0, if_neg k1, if_pos k2]
    by_cases a : 0 ≤ mode ∧ mode ≤ 3
    ·by_cases b : dx = 0
     ·by_cases c : dy = 0
      ·simp only [a, b, c, and_self, if_true, decide_true, Bool.true_and]
       exact Ev.bind hL (Ev.now _)
      ·simp only [a, b, c, and_self, if_true, decide_true, decide_false, Bool.true_and, Bool.false_and, Bool.false_eq_true, if_false]; exact Ev.now _
     ·simp only [a, b, and_self, if_true, decide_true, decide_false, Bool.true_and, Bool.false_and, Bool.false_eq_true, if_false]; exact Ev.now _
    ·simp only [a, decide_false, Bool.false_and, Bool.false_eq_true, if_false]; exact Ev.now _
   ·simp only [if_neg k0, if_neg k1, if_neg k2]; exact Ev.now _
theorem szInts_eq' (l : List Int) (a : Int) (hl : l.length ≤ maxLen) (h0 : 0 ≤ a) (h1 : a ≤ 1048576) : ∃ r, laws_szIntS.f l a = some r ∧ (r = -1 ∨ (r = a - (l.length : Int) ∧ 0 ≤ r)) := by
 unfold maxLen at hl
 unfold laws_szIntS.f
 rw [wrap_id (by omega) (by omega)]
 by_cases c : a - (l.length : Int) < 0
 ·rw [if_pos c]; exact ⟨_, rfl, .inl rfl⟩
 ·rw [if_neg c]; exact ⟨_, rfl, .inr ⟨rfl, by omega⟩⟩
theorem szSquare_eq (kd mode dx dy : Int) (l : List Int) (s : Int) (hl : l.length ≤ maxLen) (h0 : 0 ≤ s) (h1 : s ≤ 1048576) : ∃ r, laws_szSquare.f kd mode dx dy l s = some r ∧ (r < 0 ∨ (l.length ≤ 1048576 ∧ 0 ≤ r ∧ r ≤ s)) := by
 unfold laws_szSquare.f
 obtain ⟨r, e, hr⟩ := szInts_eq' l s hl h0 h1
 rw [e, Option.bind_some]
 by_cases c : r < 0
 ·rw [if_pos c]; exact ⟨_, rfl, .inl (by omega)⟩
 ·rw [if_neg c]; exact ⟨_, rfl, .inr (by omega)⟩
theorem toSquare_ev (kd mode dx dy : Int) (l : List Int) (hl : l.length ≤ 17592186043904) : Ev (fun k => laws_toSquare.f k kd mode dx dy l) (kd, mode, dx, dy, l) := by
 unfold laws_toSquare.f
 exact Ev.bind (toInts_ev l hl) (Ev.now _)
theorem eqSquare_self (kd mode dx dy : Int) (l : List Int) (hl : l.length ≤ 17592186043904) : Ev (fun k => laws_eqSquare.f k kd mode dx dy l kd mode dx dy l) true := by
 unfold laws_eqSquare.f
 simp only [if_true]
 refine Ev.bind (eqInts_ev l l hl) ?_
 simp only [decide_true, if_true]
 exact Ev.now _
/-- The sixteen levels of quarter i. -/
def qtr (l : List Int) (i : Nat) : List Int := (l.take (16 * i + 16)).drop (16 * i)
theorem qtr_len {l : List Int} (h : l.length = 64) (i : Nat) (hi : i < 4) : (qtr l i).length = 16 := by
 unfold qtr; rw [List.length_drop, List.length_take]; omega
theorem allB_sub {lo hi : Int} {l m : List Int} (h : allB lo hi l = true) (hs : ∀ x ∈ m, x ∈ l) : allB lo hi m = true := allB_iff.2 fun x hx => allB_iff.1 h x (hs x hx)
theorem qtr_all {l : List Int} {lo hi : Int} (h : allB lo hi l = true) (i : Nat) : allB lo hi (qtr l i) = true :=
 allB_sub h fun _ hx => List.mem_of_mem_take (List.mem_of_mem_drop hx)
def qrows (l : List Int) : Nat → List Int
 | 0 => []
 | n + 1 => qrows l n ++ runsL (qtr l n)
def lrL (l : List Int) (large exact_ : Bool) : List Int := if (large || exact_) = true then runsL l else qrows l 4
theorem runsL_len (l : List Int) : (runsL l).length ≤ 127 + 254 * l.length := by
 unfold runsL
 have h1 := ueL_len (cntN l)
 have h2 := rtL_len l 0
 rw [List.length_append]; omega
theorem qrows_len {l : List Int} (h : l.length = 64) (n : Nat) (hn : n ≤ 4) : (qrows l n).length ≤ 5000 * n := by
 induction n with
 | zero => simp [qrows]
 | succ n ih =>
  have h1 := ih (by omega)
  have h2 := runsL_len (qtr l n)
  rw [qtr_len h n (by omega)] at h2
  simp only [qrows, List.length_append]; omega
theorem lr_loop (l : List Int) (hl : l.length = 64) (hb : allB (-5000) 5000 l = true) : ∀ i : Nat, i ≤ 4 → Ev (fun k => impl_levelsRow.l0 k l (qrows l i) (i : Int)) (qrows l 4) := by
 refine down 4 ?_ ?_
 ·refine Ev.step (f := fun _ => some (qrows l 4)) (fun k => ?_) (Ev.now _)
  simp only [impl_levelsRow.l0]
  rw [if_neg (by omega)]
 ·intro i hi h
  have hq := runs_ev (qtr l i) (by rw [qtr_len hl i hi]; omega) (qtr_all hb i)
  have l1 := qrows_len hl i (by omega)
  have l2 := runsL_len (qtr l i)
  rw [qtr_len hl i hi] at l2
  refine Ev.step (f := fun k => (impl_runs.f k (qtr l i)).bind fun t => (if (qrows l i).length + t.length < 140737488355328 then (impl_levelsRow.l0 k l (qrows l i ++ t) ((i + 1 : Nat) : Int)) else (none))) (fun k => ?_) (Ev.bind hq ?_)
  ·simp only [impl_levelsRow.l0]
   rw [if_pos (by omega), wrap_id (x := 16 * (i : Int)) (by omega) (by omega), if_pos (by omega), wrap_id (x := 16 * (i : Int) + 16) (by omega) (by omega), if_pos (by omega), if_pos (by omega), wrap_id (x := (i : Int) + 1) (by omega) (by omega), cast1, show (16 * (i : Int) + 16).toNat = 16 * i + 16 by omega, show (16 * (i : Int)).toNat = 16 * i by omega]
   rfl
  ·refine Ev.congr (fun k => ?_) h
   rw [if_pos (by omega)]; rfl
theorem lr_ev (l : List Int) (a : Bool) (q : Int) (large ex : Bool) (hl : l.length = 64) (hb : allB (-5000) 5000 l = true) : Ev (fun k => impl_levelsRow.f k l a q large ex) (lrL l large ex) := by
 unfold impl_levelsRow.f lrL
 have h1 : Ev (fun k => impl_levelsRow.j0 k l true) (runsL l) := Ev.step (fun k => by simp only [impl_levelsRow.j0, if_true] <;> rfl) (Ev.bind (runs_ev l (by omega) hb) (Ev.now _))
 have h2 : Ev (fun k => impl_levelsRow.j0 k l false) (qrows l 4) := Ev.step (fun k => by simp only [impl_levelsRow.j0, Bool.false_eq_true, if_false]; rfl) (lr_loop l hl hb 0 (by omega))
 cases large <;> cases ex
 ·simpa using h2
 ·simpa using h1
 ·simpa using h1
 ·simpa using h1
theorem drop48 {l : List Int} (h : l.length = 64) : l.drop 48 = qtr l 3 := by
 unfold qtr
 rw [List.take_of_length_le (by omega)]
theorem take16 (l : List Int) : l.take 16 = qtr l 0 := by unfold qtr; simp
theorem slr_ev (l : List Int) (a : Bool) (q : Int) (large ex : Bool) (hl : l.length = 64) (hb : allB (-5000) 5000 l = true) : Ev (fun k => spec_l14Row.f k l a q large ex) (strOfNums (lrL l large ex)) := by
 unfold spec_l14Row.f lrL
 have h1 : Ev (fun k => spec_l14Row.j0 k l true) (strOfNums (runsL l)) := Ev.step (fun k => by simp only [spec_l14Row.j0, if_true] <;> rfl) (Ev.bind (sruns_ev l (by omega) hb) (Ev.now _))
 have hq : ∀ i, i < 4 → Ev (fun k => spec_l11Runs.f k (qtr l i)) (strOfNums (runsL (qtr l i))) := fun i hi => sruns_ev (qtr l i) (by rw [qtr_len hl i hi]; omega) (qtr_all hb i)
 have ln : ∀ i, i < 4 → (runsL (qtr l i)).length ≤ 5000 := fun i hi => by
  have := runsL_len (qtr l i); rw [qtr_len hl i hi] at this; omega
 have n0 := ln 0 (by omega)
 have n1 := ln 1 (by omega)
 have n2 := ln 2 (by omega)
 have n3 := ln 3 (by omega)
 have h2 : Ev (fun k => spec_l14Row.j0 k l false) (strOfNums (qrows l 4)) := by
  have e1 : (strOfNums (runsL (qtr l 0))).size + (strOfNums (runsL (qtr l 1))).size ≤ 9223372036854775807 := by rw [strOfNums_size, strOfNums_size]; omega
  have e2 : (strOfNums (runsL (qtr l 0) ++ runsL (qtr l 1))).size + (strOfNums (runsL (qtr l 2))).size ≤ 9223372036854775807 := by rw [strOfNums_size, strOfNums_size, List.length_append]; omega
  have e3 : (strOfNums ((runsL (qtr l 0) ++ runsL (qtr l 1)) ++ runsL (qtr l 2))).size + (strOfNums (runsL (qtr l 3))).size ≤ 9223372036854775807 := by rw [strOfNums_size, strOfNums_size, List.length_append, List.length_append]; omega
  refine Ev.step (fun k => by simp only [spec_l14Row.j0, Bool.false_eq_true, if_false]; rfl) ?_
  have c1 : (16 : Int) ≤ (l.length : Int) := by omega
  have c2 : (32 : Int) ≤ (l.length : Int) := by omega
  have c3 : (48 : Int) ≤ (l.length : Int) := by omega
  simp only [c1, c2, c3, if_true, show (16 : Int) ≤ 32 from by decide, show (32 : Int) ≤ 48 from by decide, take16, drop48 hl]
  refine Ev.bind (hq 0 (by omega)) (Ev.bind (hq 1 (by omega)) ?_)
  simp only [e1, if_true, strOfNums_append]
  refine Ev.bind (hq 2 (by omega)) ?_
  simp only [e2, if_true, strOfNums_append]
  refine Ev.bind (hq 3 (by omega)) ?_
  simp only [e3, if_true, strOfNums_append]
  have : qrows l 4 = ((runsL (qtr l 0) ++ runsL (qtr l 1)) ++ runsL (qtr l 2)) ++ runsL (qtr l 3) := by simp [qrows]
  rw [this]
  exact Ev.now _
 cases large <;> cases ex
 ·simpa using h2
 ·simpa using h1
 ·simpa using h1
 ·simpa using h1
theorem levB_iff {l : List Int} : levB l = true ↔ l.length = 64 ∧ allB (-5000) 5000 l = true := by unfold levB; rw [Bool.and_eq_true, decide_eq_true_eq]
theorem lrL_mem (l : List Int) (large ex : Bool) : ∀ y ∈ lrL l large ex, y = 48 ∨ y = 49 := by
 intro y hy
 unfold lrL at hy
 split at hy
 ·exact runsL_mem _ y hy
 ·simp only [qrows, List.nil_append] at hy
  rcases List.mem_append.1 hy with h | h
  ·rcases List.mem_append.1 h with h | h
   ·rcases List.mem_append.1 h with h | h
    ·exact runsL_mem _ y h
    ·exact runsL_mem _ y h
   ·exact runsL_mem _ y h
  ·exact runsL_mem _ y h
def sqL (key : Bool) (kd mode dx dy : Int) (l : List Int) (large ex : Bool) : List Int :=
 (if key = true then [] else ueL kd.toNat) ++ (if kd = 1 then ueL (foldN dx) ++ (ueL (foldN dy) ++ lrL l large ex) else if kd = 2 then ueL mode.toNat ++ lrL l large ex else [])
def sqLetB (key : Bool) (kd mode dx dy : Int) (l : List Int) (q : Int) (large ex : Bool) : Bool := sqB kd mode dx dy l && (condB q large ex && (!key || decide (kd = 2)))
def sqrv (key : Bool) (kd mode dx dy : Int) (l : List Int) (q : Int) (large ex : Bool) : ByteArray × Bool := if sqLetB key kd mode dx dy l q large ex = true then (strOfNums (sqL key kd mode dx dy l large ex), true) else (⟨#[]⟩, false)
theorem lrL_len {l : List Int} (h : l.length = 64) (large ex : Bool) : (lrL l large ex).length ≤ 20000 := by
 unfold lrL
 have h1 := runsL_len l
 have h2 := qrows_len h 4 (by omega)
 split <;> omega
theorem sqB_kd {kd mode dx dy : Int} {l : List Int} (h : sqB kd mode dx dy l = true) :
  kd = 0 ∨ (kd = 1 ∧ (-16 ≤ dx ∧ dx ≤ 16) ∧ (-16 ≤ dy ∧ dy ≤ 16) ∧ l.length = 64 ∧ allB (-5000) 5000 l = true) ∨ (kd = 2 ∧ (0 ≤ mode ∧ mode ≤ 3) ∧ l.length = 64 ∧ allB (-5000) 5000 l = true) := by
 unfold sqB at h
 by_cases k0 : kd = 0
 ·exact .inl k0
 ·by_cases k1 : kd = 1
  ·rw [if_neg k0, if_pos k1] at h
   simp only [Bool.and_eq_true, decide_eq_true_eq] at h
   exact .inr (.inl ⟨k1, h.2.1, h.2.2.1, (levB_iff.1 h.2.2.2).1, (levB_iff.1 h.2.2.2).2⟩)
  ·by_cases k2 : kd = 2
   ·rw [if_neg k0, if_neg k1, if_pos k2] at h
    simp only [Bool.and_eq_true, decide_eq_true_eq] at h
    exact .inr (.inr ⟨k2, h.1, (levB_iff.1 h.2.2.2).1, (levB_iff.1 h.2.2.2).2⟩)
   ·rw [if_neg k0, if_neg k1, if_neg k2] at h
    cases h
theorem ueN_ev (n : Int) (h : 0 ≤ n ∧ n ≤ 1000000) : (((n.toNat : Nat) : Int) = n) := Int.toNat_of_nonneg h.1
theorem serow_ev (x : Int) (h : -16 ≤ x ∧ x ≤ 16) : Ev (fun k => impl_SeRow.f k x) (strOfNums (ueL (foldN x)), true) := by
 unfold impl_SeRow.f
 have hf := fold_lt (x := x) (by omega) (by omega)
 have g : (0 : Int) ≤ ((foldN x : Nat) : Int) ∧ ((foldN x : Nat) : Int) ≤ 1000000 := by omega
 simp only [fold_eq x (by omega) (by omega), Option.bind_some, if_true, impl_UeRow.f, within_eq, decide_eq_true g]
 exact Ev.bind (Ev.bind (ue_ev (foldN x) (by omega)) (Ev.now _)) (Ev.now _)
theorem iue_ev (n : Int) (h : 0 ≤ n ∧ n ≤ 1000000) : Ev (fun k => impl_ue.f k n) (strOfNums (ueL n.toNat)) := by
 have e := ue_ev n.toNat (by omega)
 rwa [ueN_ev n h] at e
theorem sqj1_ev (key : Bool) (kd mode dx dy : Int) (l : List Int) (q : Int) (large ex : Bool) (pre : List Int) (hp : pre.length ≤ 1000) (h : sqB kd mode dx dy l = true) :
  Ev (fun k => impl_SquareRow.j1 k pre kd mode dx dy l key q large ex) (strOfNums (pre ++ (if kd = 1 then ueL (foldN dx) ++ (ueL (foldN dy) ++ lrL l large ex) else if kd = 2 then ueL mode.toNat ++ lrL l large ex else [])), true) := by
 rcases sqB_kd h with e | ⟨e, hx, hy, hl, hb⟩ | ⟨e, hm, hl, hb⟩
 ·subst e
  refine Ev.step (f := fun _ => some (strOfNums pre, true)) (fun k => ?_) ?_
  ·simp only [impl_SquareRow.j1]
   rfl
  ·rw [if_neg (by omega), if_neg (by omega), List.append_nil]
   exact Ev.now _
 ·subst e
  have e1 := serow_ev dx hx
  have e2 := serow_ev dy hy
  have e3 := lr_ev l key q large ex hl hb
  have l1 := ueL_len (foldN dx)
  have l2 := ueL_len (foldN dy)
  have l3 := lrL_len hl large ex
  have b1 := bytes_row (ueL_mem (foldN dx))
  have b2 := bytes_row (ueL_mem (foldN dy))
  have g1 : pre.length + (strOfNums (ueL (foldN dx))).size < 140737488355328 := by rw [strOfNums_size]; omega
  have g2 : (pre ++ ueL (foldN dx)).length + (strOfNums (ueL (foldN dy))).size < 140737488355328 := by rw [strOfNums_size, List.length_append]; omega
  have g3 : (pre ++ ueL (foldN dx) ++ ueL (foldN dy)).length + (lrL l large ex).length < 140737488355328 := by rw [List.length_append, List.length_append]; omega
  refine Ev.step (fun k => by simp only [impl_SquareRow.j1, if_true]; rfl) (Ev.bind e1 (Ev.bind e2 ?_))
  simp only [g1, b1, if_true, Option.bind_some, g2, b2]
  refine Ev.bind e3 ?_
  simp only [g3, if_true]
  rw [List.append_assoc, List.append_assoc]
  exact Ev.now _
 ·subst e
  have e1 := iue_ev mode (by omega)
  have e3 := lr_ev l key q large ex hl hb
  have l1 := ueL_len mode.toNat
  have l3 := lrL_len hl large ex
  have b1 := bytes_row (ueL_mem mode.toNat)
  have g1 : pre.length + (strOfNums (ueL mode.toNat)).size < 140737488355328 := by rw [strOfNums_size]; omega
  have g3 : (pre ++ ueL mode.toNat).length + (lrL l large ex).length < 140737488355328 := by rw [List.length_append]; omega
  refine Ev.step (fun k => by simp only [impl_SquareRow.j1]; rw [if_neg (by omega), if_pos trivial]) (Ev.bind e1 ?_)
  simp only [g1, b1, if_true, Option.bind_some]
  refine Ev.bind e3 ?_
  simp only [g3, if_true]
  rw [if_neg (by omega), List.append_assoc]
  exact Ev.now _
theorem sqrow_ev (key : Bool) (kd mode dx dy : Int) (l : List Int) (q : Int) (large ex : Bool) (hl : l.length ≤ 17592186043904) : Ev (fun k => impl_SquareRow.f k kd mode dx dy l key q large ex) (sqrv key kd mode dx dy l q large ex) := by
 have hbad : Ev (fun k => impl_SquareRow.j0 k true kd mode dx dy l key q large ex) (⟨#[]⟩, false) := Ev.step (f := fun _ => some (⟨#[]⟩, false)) (fun k => by simp only [impl_SquareRow.j0, if_true]) (Ev.now _)
 unfold impl_SquareRow.f sqrv sqLetB
 refine Ev.bind (sqok_ev kd mode dx dy l hl) ?_
 cases h1 : sqB kd mode dx dy l with
 | false => simp only [Bool.false_eq_true, if_false, Bool.false_and]; exact hbad
 | true =>
  simp only [if_true, cond_val, Option.bind_some, Bool.true_and]
  cases h2 : condB q large ex with
  | false => simp only [Bool.false_eq_true, if_false, Bool.false_and]; exact hbad
  | true =>
   simp only [if_true, Bool.true_and]
   have hp := ueL_len kd.toNat
   have hk : 0 ≤ kd ∧ kd ≤ 1000000 := by rcases sqB_kd h1 with e | e | e <;> omega
   unfold sqL
   cases key with
   | true =>
    by_cases c : kd = 2
    ·have hb : (!(kd == 2)) = false := by rw [c]; rfl
     simp only [impl_Square_let.f, if_true, Option.bind_some, hb, decide_eq_true c, Bool.or_true]
     refine Ev.step (fun k => by simp only [impl_SquareRow.j0, Bool.false_eq_true, if_false, Option.bind_some, if_true]; rfl) ?_
     exact sqj1_ev true kd mode dx dy l q large ex [] (by simp) h1
    ·have hb : (!(kd == 2)) = true := by simp [c]
     simp only [impl_Square_let.f, if_true, Option.bind_some, hb, decide_eq_false c, Bool.or_false, Bool.not_true, Bool.false_eq_true, if_false]
     exact hbad
   | false =>
    simp only [impl_Square_let.f, Bool.false_eq_true, if_false, Option.bind_some, Bool.not_true, Bool.not_false, Bool.true_or, if_true]
    have g : ([] : List Int).length + (strOfNums (ueL kd.toNat)).size < 140737488355328 := by rw [strOfNums_size]; simp; omega
    refine Ev.step (fun k => by simp only [impl_SquareRow.j0, Bool.false_eq_true, if_false, Option.bind_some]; rfl) (Ev.bind (iue_ev kd hk) ?_)
    simp only [g, if_true, bytes_row (ueL_mem kd.toNat), List.nil_append]
    exact sqj1_ev false kd mode dx dy l q large ex (ueL kd.toNat) (by omega) h1
theorem sueI_ev (n : Int) (h : 0 ≤ n ∧ n ≤ 1000000) : Ev (fun k => spec_l03Ue.f k n) (strOfNums (ueL n.toNat)) := by
 have e := sue_ev n.toNat (by omega)
 rwa [ueN_ev n h] at e
theorem ssqj0_ev (key : Bool) (kd mode dx dy : Int) (l : List Int) (q : Int) (large ex : Bool) (pre : List Int) (hp : pre.length ≤ 1000) (h : sqB kd mode dx dy l = true) :
  Ev (fun k => spec_l15Row.j0 k (strOfNums pre) kd mode dx dy l key q large ex) (strOfNums (pre ++ (if kd = 1 then ueL (foldN dx) ++ (ueL (foldN dy) ++ lrL l large ex) else if kd = 2 then ueL mode.toNat ++ lrL l large ex else []))) := by
 rcases sqB_kd h with e | ⟨e, hx, hy, hl, hb⟩ | ⟨e, hm, hl, hb⟩
 ·subst e
  refine Ev.step (f := fun _ => some (strOfNums pre)) (fun k => ?_) ?_
  ·simp only [spec_l15Row.j0]
   rfl
  ·rw [if_neg (by omega), if_neg (by omega), List.append_nil]
   exact Ev.now _
 ·subst e
  have e1 := sse_ev dx (by omega) (by omega)
  have e2 := sse_ev dy (by omega) (by omega)
  have e3 := slr_ev l key q large ex hl hb
  have l1 := ueL_len (foldN dx)
  have l2 := ueL_len (foldN dy)
  have l3 := lrL_len hl large ex
  have g1 : (strOfNums pre).size + (strOfNums (ueL (foldN dx))).size ≤ 9223372036854775807 := by rw [strOfNums_size, strOfNums_size]; omega
  have g2 : (strOfNums (pre ++ ueL (foldN dx))).size + (strOfNums (ueL (foldN dy))).size ≤ 9223372036854775807 := by rw [strOfNums_size, strOfNums_size, List.length_append]; omega
  have g3 : (strOfNums (pre ++ ueL (foldN dx) ++ ueL (foldN dy))).size + (strOfNums (lrL l large ex)).size ≤ 9223372036854775807 := by rw [strOfNums_size, strOfNums_size, List.length_append, List.length_append]; omega
  refine Ev.step (fun k => by simp only [spec_l15Row.j0, if_true]; rfl) (Ev.bind e1 ?_)
  simp only [g1, if_true, strOfNums_append]
  refine Ev.bind e2 ?_
  simp only [g2, if_true, strOfNums_append]
  refine Ev.bind e3 ?_
  simp only [g3, if_true, strOfNums_append]
  rw [List.append_assoc, List.append_assoc]
  exact Ev.now _
 ·subst e
  have e1 := sueI_ev mode (by omega)
  have e3 := slr_ev l key q large ex hl hb
  have l1 := ueL_len mode.toNat
  have l3 := lrL_len hl large ex
  have g1 : (strOfNums pre).size + (strOfNums (ueL mode.toNat)).size ≤ 9223372036854775807 := by rw [strOfNums_size, strOfNums_size]; omega
  have g3 : (strOfNums (pre ++ ueL mode.toNat)).size + (strOfNums (lrL l large ex)).size ≤ 9223372036854775807 := by rw [strOfNums_size, strOfNums_size, List.length_append]; omega
  refine Ev.step (fun k => by simp only [spec_l15Row.j0]; rw [if_neg (by omega), if_pos trivial]) (Ev.bind e1 ?_)
  simp only [g1, if_true, strOfNums_append]
  refine Ev.bind e3 ?_
  simp only [g3, if_true, strOfNums_append]
  rw [if_neg (by omega), List.append_assoc]
  exact Ev.now _
theorem sl15_ev (key : Bool) (kd mode dx dy : Int) (l : List Int) (q : Int) (large ex : Bool) (h : sqB kd mode dx dy l = true) : Ev (fun k => spec_l15Row.f k kd mode dx dy l key q large ex) (strOfNums (sqL key kd mode dx dy l large ex)) := by
 unfold spec_l15Row.f sqL
 have hp := ueL_len kd.toNat
 have hk : 0 ≤ kd ∧ kd ≤ 1000000 := by rcases sqB_kd h with e | e | e <;> omega
 cases key with
 | true =>
  simp only [if_true]
  exact ssqj0_ev true kd mode dx dy l q large ex [] (by simp) h
 | false =>
  simp only [Bool.false_eq_true, if_false]
  exact Ev.bind (sueI_ev kd hk) (ssqj0_ev false kd mode dx dy l q large ex (ueL kd.toNat) (by omega) h)
theorem sqL_mem (key : Bool) (kd mode dx dy : Int) (l : List Int) (large ex : Bool) : ∀ y ∈ sqL key kd mode dx dy l large ex, y = 48 ∨ y = 49 := by
 intro y hy
 unfold sqL at hy
 rcases List.mem_append.1 hy with h | h
 ·split at h
  ·simp at h
  ·exact ueL_mem _ y h
 ·split at h
  ·rcases List.mem_append.1 h with h | h
   ·exact ueL_mem _ y h
   ·rcases List.mem_append.1 h with h | h
    ·exact ueL_mem _ y h
    ·exact lrL_mem _ _ _ y h
  ·split at h
   ·rcases List.mem_append.1 h with h | h
    ·exact ueL_mem _ y h
    ·exact lrL_mem _ _ _ y h
   ·simp at h
theorem sqL_len {key : Bool} {kd mode dx dy : Int} {l : List Int} (large ex : Bool) (h : sqB kd mode dx dy l = true) : (sqL key kd mode dx dy l large ex).length ≤ 21000 := by
 unfold sqL
 have h0 := ueL_len kd.toNat
 have h1 := ueL_len (foldN dx)
 have h2 := ueL_len (foldN dy)
 have h3 := ueL_len mode.toNat
 rw [List.length_append]
 have hf : (if key = true then ([] : List Int) else ueL kd.toNat).length ≤ 127 := by
  cases key with
  | true => exact Nat.zero_le _
  | false => exact h0
 generalize (if key = true then ([] : List Int) else ueL kd.toNat) = pre at hf ⊢
 rcases sqB_kd h with e | ⟨e, _, _, hl, _⟩ | ⟨e, _, hl, _⟩
 ·subst e
  rw [if_neg (by omega), if_neg (by omega), List.length_nil]
  omega
 ·subst e
  have := lrL_len hl large ex
  rw [if_pos rfl, List.length_append, List.length_append]
  omega
 ·subst e
  have := lrL_len hl large ex
  rw [if_neg (by omega), if_pos rfl, List.length_append]
  omega
def tileL (key large ex : Bool) : List S50 → List Int
 | [] => []
 | x :: xs => sqL key x.f0 x.f1 x.f2 x.f3 x.f4 large ex ++ tileL key large ex xs
def okS (key : Bool) (q : Int) (large ex : Bool) (x : S50) : Bool := sqLetB key x.f0 x.f1 x.f2 x.f3 x.f4 q large ex
def trv (xs : List S50) (key : Bool) (q : Int) (large ex : Bool) : ByteArray × Bool := if (1 ≤ xs.length ∧ xs.length ≤ 64) ∧ xs.all (okS key q large ex) = true then (strOfNums (tileL key large ex xs), true) else (⟨#[]⟩, false)
theorem rd50 (xs : List S50) (i : Nat) (h : i < xs.length) : rd_T50 xs (i : Int) = xs[i] := by
 unfold rd_T50
 rw [Int.toNat_natCast, List.getD_eq_getElem?_getD, List.getElem?_eq_getElem h]
 rfl
theorem rd82 (xs : List S82) (i : Nat) (h : i < xs.length) : rd_T82 xs (i : Int) = xs[i] := by
 unfold rd_T82
 rw [Int.toNat_natCast, List.getD_eq_getElem?_getD, List.getElem?_eq_getElem h]
 rfl
theorem all_drop {α : Type} (p : α → Bool) (xs : List α) (i : Nat) (hi : i < xs.length) : (xs.drop i).all p = (p xs[i] && (xs.drop (i + 1)).all p) := by rw [List.drop_eq_getElem_cons hi, List.all_cons]
theorem okS_sq {key : Bool} {q : Int} {large ex : Bool} {x : S50} (h : okS key q large ex x = true) : sqB x.f0 x.f1 x.f2 x.f3 x.f4 = true := by
 unfold okS sqLetB at h
 exact (Bool.and_eq_true _ _ ▸ h).1
theorem tilerow_loop (xs : List S50) (hn : xs.length ≤ 64) (hx : ∀ x ∈ xs, x.f4.length ≤ 1048576) (key : Bool) (q : Int) (large ex : Bool) : Ev (fun k => impl_TileRow.l0 k [] xs (xs.length : Int) 0 key q large ex) (if xs.all (okS key q large ex) = true then (strOfNums (tileL key large ex xs), true) else (⟨#[]⟩, false)) := by
 have H : ∀ i, i ≤ xs.length → ∀ out : List Int, out.length ≤ 21000 * i → Ev (fun k => impl_TileRow.l0 k out xs (xs.length : Int) (i : Int) key q large ex) (if (xs.drop i).all (okS key q large ex) = true then (strOfNums (out ++ tileL key large ex (xs.drop i)), true) else (⟨#[]⟩, false)) := by
  refine down xs.length ?_ ?_
  ·intro out ho
   refine Ev.step (f := fun _ => some (strOfNums out, true)) (fun k => ?_) ?_
   ·simp only [impl_TileRow.l0]
    rw [if_neg (by omega)]
   ·rw [List.drop_length, tileL, List.append_nil, List.all_nil, if_pos rfl]
    exact Ev.now _
  ·intro i hi h out ho
   have hm := hx xs[i] (List.getElem_mem _)
   have e := sqrow_ev key xs[i].f0 xs[i].f1 xs[i].f2 xs[i].f3 xs[i].f4 q large ex (by omega)
   refine Ev.step (fun k => by simp only [impl_TileRow.l0]; rw [if_pos (by omega), if_pos (by omega), if_pos (by omega), rd50 xs i hi]) (Ev.bind e ?_)
   rw [all_drop _ xs i hi]
   unfold sqrv
   cases c : okS key q large ex xs[i] with
   | false =>
    unfold okS at c
    rw [c]
    simp only [Bool.false_eq_true, if_false, Bool.false_and]
    exact Ev.now _
   | true =>
    have g := okS_sq c
    unfold okS at c
    rw [c]
    have ln := sqL_len (key := key) large ex g
    have b := bytes_row (sqL_mem key xs[i].f0 xs[i].f1 xs[i].f2 xs[i].f3 xs[i].f4 large ex)
    have hs : (strOfNums (sqL key xs[i].f0 xs[i].f1 xs[i].f2 xs[i].f3 xs[i].f4 large ex)).size ≤ 21000 := by rw [strOfNums_size]; exact ln
    have gl : out.length + (strOfNums (sqL key xs[i].f0 xs[i].f1 xs[i].f2 xs[i].f3 xs[i].f4 large ex)).size < 140737488355328 := by omega
    have w2 : wrap64 ((i : Int) + 1) = ((i + 1 : Nat) : Int) := by rw [wrap_id (by omega) (by omega)]; omega
    simp only [if_true, gl, b, w2, Bool.true_and]
    rw [List.drop_eq_getElem_cons hi, tileL, ← List.append_assoc]
    exact h _ (by rw [List.length_append]; omega)
 have h0 := H 0 (by omega) [] (by simp)
 rw [List.nil_append, List.drop_zero] at h0
 exact h0
theorem tilerow_ev (xs : List S50) (hl : xs.length ≤ 1048576) (hx : ∀ x ∈ xs, x.f4.length ≤ 1048576) (key : Bool) (q : Int) (large ex : Bool) : Ev (fun k => impl_TileRow.f k xs key q large ex) (trv xs key q large ex) := by
 unfold impl_TileRow.f trv
 simp only [within_eq, Option.bind_some]
 by_cases c : 1 ≤ xs.length ∧ xs.length ≤ 64
 ·have c' : (1 : Int) ≤ (xs.length : Int) ∧ (xs.length : Int) ≤ 64 := by omega
  simp only [decide_eq_true c', if_true, c, true_and]
  exact tilerow_loop xs c.2 hx key q large ex
 ·have c' : ¬ ((1 : Int) ≤ (xs.length : Int) ∧ (xs.length : Int) ≤ 64) := by omega
  simp only [decide_eq_false c', Bool.false_eq_true, if_false, c, false_and]
  exact Ev.now _
theorem l16ok_ev (xs : List S50) (hl : xs.length ≤ 1048576) (hx : ∀ x ∈ xs, x.f4.length ≤ 1048576) (key : Bool) (q : Int) (large ex : Bool) : Ev (fun k => spec_l16Ok.f k xs key q large ex) (decide ((1 ≤ xs.length ∧ xs.length ≤ 64) ∧ xs.all (okS key q large ex) = true)) := by
 have hbad : Ev (fun k => spec_l16Ok.j0 k xs true key q large ex) false := Ev.step (f := fun _ => some false) (fun k => by simp only [spec_l16Ok.j0]; rfl) (Ev.now _)
 unfold spec_l16Ok.f
 simp only [scond_val, in_eq, Option.bind_some]
 cases hc : condB q large ex with
 | false =>
  have e : ¬ ((1 ≤ xs.length ∧ xs.length ≤ 64) ∧ xs.all (okS key q large ex) = true) := by
   rintro ⟨h1, h2⟩
   have := List.all_eq_true.1 h2 xs[0] (List.getElem_mem (by omega))
   unfold okS sqLetB at this
   rw [hc, Bool.false_and, Bool.and_false] at this
   cases this
  rw [decide_eq_false e]
  simp only [Bool.false_eq_true, if_false]
  exact hbad
 | true =>
  simp only [if_true]
  by_cases c : 1 ≤ xs.length ∧ xs.length ≤ 64
  ·have c' : (1 : Int) ≤ (xs.length : Int) ∧ (xs.length : Int) ≤ 64 := by omega
   simp only [decide_eq_true c', Bool.not_true, c, and_self, true_and]
   have H : ∀ i, i ≤ xs.length → Ev (fun k => spec_l16Ok.l0 k xs (i : Int) key q large ex) (decide ((xs.drop i).all (okS key q large ex) = true)) := by
    refine down xs.length ?_ ?_
    ·refine Ev.step (f := fun _ => some true) (fun k => ?_) ?_
     ·simp only [spec_l16Ok.l0]
      rw [if_neg (by omega)]
     ·rw [List.drop_length, List.all_nil, decide_eq_true rfl]
      exact Ev.now _
    ·intro i hi h
     have hm := hx xs[i] (List.getElem_mem _)
     have e := ssqok_ev xs[i].f0 xs[i].f1 xs[i].f2 xs[i].f3 xs[i].f4 (by omega)
     have w2 : wrap64 ((i : Int) + 1) = ((i + 1 : Nat) : Int) := by rw [wrap_id (by omega) (by omega)]; omega
     refine Ev.step (fun k => by simp only [spec_l16Ok.l0]; rw [if_pos (by omega), if_pos (by omega), rd50 xs i hi]) (Ev.bind e ?_)
     rw [all_drop _ xs i hi]
     have ek : okS key q large ex xs[i] = (sqB xs[i].f0 xs[i].f1 xs[i].f2 xs[i].f3 xs[i].f4 && (!key || decide (xs[i].f0 = 2))) := by unfold okS sqLetB; rw [hc, Bool.true_and]
     rw [ek, w2]
     cases sqB xs[i].f0 xs[i].f1 xs[i].f2 xs[i].f3 xs[i].f4 with
     | false => simp only [Bool.false_eq_true, if_false, Bool.false_and, decide_false]; exact Ev.now _
     | true =>
      cases key with
      | false => simp only [Bool.false_eq_true, if_false, if_true, Bool.not_false, Bool.true_or, Bool.true_and]; exact h
      | true =>
       by_cases d : xs[i].f0 = 2
       ·simp only [d, if_true, Bool.not_true, Bool.false_or, decide_true, Bool.true_and]; exact h
       ·simp only [d, if_true, if_false, Bool.not_true, Bool.false_or, decide_false, Bool.and_false, Bool.false_and, Bool.false_eq_true]; exact Ev.now _
   have h0 := H 0 (by omega)
   rw [List.drop_zero] at h0
   exact Ev.step (fun k => by simp only [spec_l16Ok.j0, Bool.false_eq_true, if_false]; rfl) h0
  ·have c' : ¬ ((1 : Int) ≤ (xs.length : Int) ∧ (xs.length : Int) ≤ 64) := by omega
   simp only [decide_eq_false c', Bool.not_false, c, false_and, decide_false]
   exact hbad
theorem l16row_ev (xs : List S50) (hn : xs.length ≤ 64) (key : Bool) (q : Int) (large ex : Bool) (ha : xs.all (okS key q large ex) = true) : Ev (fun k => spec_l16Row.f k xs key q large ex) (strOfNums (tileL key large ex xs)) := by
 have H : ∀ i, i ≤ xs.length → ∀ out : List Int, out.length ≤ 21000 * i → Ev (fun k => spec_l16Row.l0 k xs out (i : Int) key q large ex) (strOfNums (out ++ tileL key large ex (xs.drop i))) := by
  refine down xs.length ?_ ?_
  ·intro out ho
   refine Ev.step (f := fun _ => some (strOfNums out)) (fun k => ?_) ?_
   ·simp only [spec_l16Row.l0]
    rw [if_neg (by omega)]
   ·rw [List.drop_length, tileL, List.append_nil]
    exact Ev.now _
  ·intro i hi h out ho
   have g := okS_sq (List.all_eq_true.1 ha xs[i] (List.getElem_mem _))
   have e := sl15_ev key xs[i].f0 xs[i].f1 xs[i].f2 xs[i].f3 xs[i].f4 q large ex g
   have ln := sqL_len (key := key) large ex g
   have b := bytes_row (sqL_mem key xs[i].f0 xs[i].f1 xs[i].f2 xs[i].f3 xs[i].f4 large ex)
   have hs : (strOfNums (sqL key xs[i].f0 xs[i].f1 xs[i].f2 xs[i].f3 xs[i].f4 large ex)).size ≤ 21000 := by rw [strOfNums_size]; exact ln
   have gl : out.length + (strOfNums (sqL key xs[i].f0 xs[i].f1 xs[i].f2 xs[i].f3 xs[i].f4 large ex)).size < 140737488355328 := by omega
   have w2 : wrap64 ((i : Int) + 1) = ((i + 1 : Nat) : Int) := by rw [wrap_id (by omega) (by omega)]; omega
   refine Ev.step (fun k => by simp only [spec_l16Row.l0]; rw [if_pos (by omega), if_pos (by omega), rd50 xs i hi]) (Ev.bind e ?_)
   simp only [if_true, gl, b, w2]
   rw [List.drop_eq_getElem_cons hi, tileL, ← List.append_assoc]
   exact h _ (by rw [List.length_append]; omega)
 have h0 := H 0 (by omega) [] (by simp)
 rw [List.nil_append, List.drop_zero] at h0
 exact h0
theorem stilerow_ev (xs : List S50) (hl : xs.length ≤ 1048576) (hx : ∀ x ∈ xs, x.f4.length ≤ 1048576) (key : Bool) (q : Int) (large ex : Bool) : Ev (fun k => spec_TileRow.f k xs key q large ex) (trv xs key q large ex) := by
 unfold spec_TileRow.f trv
 refine Ev.bind (l16ok_ev xs hl hx key q large ex) ?_
 by_cases c : (1 ≤ xs.length ∧ xs.length ≤ 64) ∧ xs.all (okS key q large ex) = true
 ·rw [decide_eq_true c, if_pos c]
  simp only [if_true]
  exact Ev.bind (l16row_ev xs c.1.2 key q large ex c.2) (Ev.now _)
 ·rw [decide_eq_false c, if_neg c]
  simp only [Bool.false_eq_true, if_false]
  exact Ev.now _
def cv (x : S82) : S50 := ⟨x.f0, x.f1, x.f2, x.f3, x.f4⟩
theorem szSquares_eq (xs : List S82) (hl : xs.length ≤ maxLen) (hx : ∀ x ∈ xs, x.f4.length ≤ maxLen) : ∃ r, Ev (fun k => laws_szSquareS.f k xs 1048576) r ∧ (r < 0 ∨ (xs.length ≤ 1048576 ∧ ∀ x ∈ xs, x.f4.length ≤ 1048576)) := by
 unfold laws_szSquareS.f
 rw [wrap_id (by unfold maxLen at hl; omega) (by unfold maxLen at hl; omega)]
 by_cases c : (1048576 - (xs.length : Int)) < 0
 ·simp only [c, if_true]
  exact ⟨-1, Ev.now _, .inl (by omega)⟩
 ·simp only [c, if_false]
  have H : ∀ i, i ≤ xs.length → ∀ s : Int, 0 ≤ s → s ≤ 1048576 → ∃ r, Ev (fun k => laws_szSquareS.l0 k xs s (i : Int)) r ∧ (r < 0 ∨ ∀ x ∈ xs.drop i, x.f4.length ≤ 1048576) := by
   refine down xs.length ?_ ?_
   ·intro s h0 h1
    refine ⟨s, Ev.step (f := fun _ => some s) (fun k => ?_) (Ev.now _), .inr (by simp)⟩
    simp only [laws_szSquareS.l0]
    rw [if_neg (by omega)]
   ·intro i hi h s h0 h1
    obtain ⟨t, et, ht⟩ := szSquare_eq xs[i].f0 xs[i].f1 xs[i].f2 xs[i].f3 xs[i].f4 s (hx xs[i] (List.getElem_mem _)) h0 h1
    have w2 : wrap64 ((i : Int) + 1) = ((i + 1 : Nat) : Int) := by rw [wrap_id (by omega) (by omega)]; omega
    by_cases d : t < 0
    ·refine ⟨-1, Ev.step (f := fun _ => some (-1)) (fun k => ?_) (Ev.now _), .inl (by omega)⟩
     simp only [laws_szSquareS.l0]
     rw [if_pos (by omega), if_pos (by omega), rd82 xs i hi, et, Option.bind_some, if_pos d]
    ·rcases ht with ht | ⟨g1, g2, g3⟩
     ·exact absurd ht d
     ·obtain ⟨r, er, hr⟩ := h t g2 (by omega)
      refine ⟨r, Ev.step (fun k => ?_) er, hr.imp id fun q x hx' => ?_⟩
      ·simp only [laws_szSquareS.l0]
       rw [if_pos (by omega), if_pos (by omega), rd82 xs i hi, et, Option.bind_some, if_neg d, w2]
      ·rw [List.drop_eq_getElem_cons hi] at hx'
       rcases List.mem_cons.1 hx' with rfl | hx'
       ·exact g1
       ·exact q x hx'
  obtain ⟨r, er, hr⟩ := H 0 (by omega) (1048576 - (xs.length : Int)) (by omega) (by omega)
  exact ⟨r, er, hr.imp id fun q => ⟨by omega, by rw [List.drop_zero] at q; exact q⟩⟩
theorem toSquares_ev (xs : List S82) (hl : xs.length ≤ 1048576) (hx : ∀ x ∈ xs, x.f4.length ≤ 1048576) : Ev (fun k => laws_toSquareS.f k xs) (xs.map cv) := by
 obtain ⟨m, hm⟩ : ∃ m, m = xs.map cv := ⟨_, rfl⟩
 have lm : m.length = xs.length := by rw [hm, List.length_map]
 rw [← hm]
 have H : ∀ i, i ≤ xs.length → Ev (fun k => laws_toSquareS.l0 k xs (m.take i ++ List.replicate (xs.length - i) z50) (i : Int)) m := by
  refine down xs.length ?_ ?_
  ·refine Ev.step (f := fun _ => some m) (fun k => ?_) (Ev.now _)
   simp only [laws_toSquareS.l0]
   rw [if_neg (by omega), Nat.sub_self, List.replicate_zero, List.append_nil, List.take_of_length_le (by omega)]
  ·intro i hi h
   have e := toSquare_ev xs[i].f0 xs[i].f1 xs[i].f2 xs[i].f3 xs[i].f4 (by have := hx xs[i] (List.getElem_mem _); omega)
   have w2 : wrap64 ((i : Int) + 1) = ((i + 1 : Nat) : Int) := by rw [wrap_id (by omega) (by omega)]; omega
   have hlen : (m.take i ++ List.replicate (xs.length - i) z50).length = xs.length := by rw [List.length_append, List.length_take, List.length_replicate]; omega
   have hset : (m.take i ++ List.replicate (xs.length - i) z50).set i (cv xs[i]) = m.take (i + 1) ++ List.replicate (xs.length - (i + 1)) z50 := by
    have hmi : cv xs[i] = m[i]'(by omega) := by simp [hm]
    rw [List.set_append_right _ _ (by rw [List.length_take]; omega), List.length_take, Nat.min_eq_left (by omega), Nat.sub_self, show xs.length - i = (xs.length - (i + 1)) + 1 by omega, List.replicate_succ, List.set_cons_zero, hmi, ← List.take_append_getElem (show i < m.length by omega), List.append_assoc]
    rfl
   refine Ev.step (fun k => by simp only [laws_toSquareS.l0]; rw [if_pos (by omega), if_pos (by omega), rd82 xs i hi]) (Ev.bind e ?_)
   have g : (i : Int) < ((m.take i ++ List.replicate (xs.length - i) z50).length : Int) := by rw [hlen]; omega
   simp only [g, if_true, Int.toNat_natCast, w2]
   have h2 : (⟨xs[i].f0, xs[i].f1, xs[i].f2, xs[i].f3, xs[i].f4⟩ : S50) = cv xs[i] := rfl
   rw [h2, hset]
   exact h
 have h0 := H 0 (by omega)
 rw [List.take_zero, List.nil_append, Nat.sub_zero] at h0
 unfold laws_toSquareS.f
 refine Ev.congr (fun k => ?_) h0
 rw [if_pos (by omega), Int.toNat_natCast, if_pos (by omega)]
 rfl
theorem eqSquares_self (xs : List S50) (hl : xs.length ≤ 1048576) (hx : ∀ x ∈ xs, x.f4.length ≤ 1048576) : Ev (fun k => laws_eqSquareS.f k xs xs) true := by
 have H : ∀ i, i ≤ xs.length → Ev (fun k => laws_eqSquareS.l0 k xs xs (i : Int)) true := by
  refine down xs.length ?_ ?_
  ·refine Ev.step (f := fun _ => some true) (fun k => ?_) (Ev.now _)
   simp only [laws_eqSquareS.l0]
   rw [if_neg (by omega)]
  ·intro i hi h
   have e := eqSquare_self xs[i].f0 xs[i].f1 xs[i].f2 xs[i].f3 xs[i].f4 (by have := hx xs[i] (List.getElem_mem _); omega)
   have w2 : wrap64 ((i : Int) + 1) = ((i + 1 : Nat) : Int) := by rw [wrap_id (by omega) (by omega)]; omega
   refine Ev.step (fun k => by simp only [laws_eqSquareS.l0]; rw [if_pos (by omega), if_pos (by omega), if_pos (by omega), rd50 xs i hi]) (Ev.bind e ?_)
   simp only [if_true, w2]
   exact h
 have h0 := H 0 (by omega)
 unfold laws_eqSquareS.f
 refine Ev.congr (fun k => ?_) h0
 rw [if_pos rfl]
 rfl
theorem FnExactTileRow : laws_FnExactTileRow.Pure := by
 intro xs key q large ex hl hx _
 refine Ev.rounds ?_
 unfold laws_FnExactTileRow.f
 obtain ⟨r, er, hr⟩ := szSquares_eq xs hl hx
 refine Ev.bind er ?_
 by_cases c : r < 0
 ·simp only [c, if_true]; exact Ev.now _
 ·obtain ⟨h1, h2⟩ := hr.resolve_left c
  simp only [c, if_false, laws_toCond.f, Option.bind_some]
  have hT := toSquares_ev xs h1 h2
  have l2 : (xs.map cv).length ≤ 1048576 := by rw [List.length_map]; exact h1
  have x2 : ∀ x ∈ xs.map cv, x.f4.length ≤ 1048576 := fun x hx' => by
   obtain ⟨y, hy, rfl⟩ := List.mem_map.1 hx'
   exact h2 y hy
  have hE := eqSquares_self _ l2 x2
  have hS := stilerow_ev _ l2 x2 key q large ex
  have hI := tilerow_ev _ l2 x2 key q large ex
  generalize trv (xs.map cv) key q large ex = v at hS hI
  repeat' (first
   | exact Ev.now _
   | (refine Ev.bind (by assumption) ?_)
   | (simp only [if_true, if_false, bne_self_eq_false, Bool.false_eq_true])
   | (refine Ev.step (fun k => by simp only [laws_FnExactTileRow.j0]; rfl) ?_))
end Go.Proofs.Ytlmlkoalicjlhaa.Pure