/- Drawn levels come back from their rows, wherever these stand: the law FnLevelRows answers true of every row of bytes. No condition beside the row's own. -/
import Derived.Test.YtlmlkoalicjlhaaQFnLevelRowsx14
namespace Go.Proofs.Ytlmlkoalicjlhaa.Pure
open Go.RowKit Go.Proofs.Ytlmlkoalicjlhaa.QFnLevelRows Go.Proofs.YtlmlkoalicjlhaaW.PrintWords Go.Proofs.YtlmlkoalicjlhaaW.PrintLast Go.Proofs.YtlmlkoalicjlhaaW.PrintMore Go.Proofs.YtlmlkoalicjlhaaV
set_option linter.unusedVariables false
set_option linter.unusedSimpArgs false
theorem wrap_id {x : Int} (h0 : -9223372036854775808 ≤ x) (h1 : x ≤ 9223372036854775807) : wrap64 x = x := by
 unfold wrap64
 omega
theorem within_eq (a b c : Int) : impl_within.f a b c = some (decide (b ≤ a ∧ a ≤ c)) := by
 unfold impl_within.f
 by_cases h : a ≥ b
 ·rw [if_pos h]; congr 1; rw [decide_eq_decide]; omega
 ·rw [if_neg h]; congr 1; symm; rw [decide_eq_false_iff_not]; omega
theorem down {P : Nat → Prop} (n : Nat) (h0 : P n) (hs : ∀ i, i < n → P (i + 1) → P i) : ∀ i, i ≤ n → P i := by
 intro i hi
 obtain ⟨d, hd⟩ : ∃ d, d = n - i := ⟨_, rfl⟩
 induction d generalizing i with
 | zero =>
  have : i = n := by omega
  subst this; exact h0
 | succ d ih => exact hs i (by omega) (ih (i + 1) (by omega) (by omega))
theorem rd_nat (l : List Int) (i : Nat) (h : i < l.length) : rd l (i : Int) = l[i] := by
 unfold rd
 rw [List.getD_eq_getElem?_getD, Int.toNat_natCast, List.getElem?_eq_getElem h]; rfl
theorem cast1 (i : Nat) : ((i : Nat) : Int) + 1 = ((i + 1 : Nat) : Int) := rfl
theorem mix_set {α : Type} (l z : List α) (i : Nat) (hi : i < l.length) (hz : i < z.length) : (l.take i ++ z.drop i).set i l[i] = l.take (i + 1) ++ z.drop (i + 1) := by
 rw [List.set_append_right _ _ (by simp; omega)]
 rw [show i - (l.take i).length = 0 by simp; omega]
 rw [List.drop_eq_getElem_cons hz, List.set_cons_zero, List.take_succ_eq_append_getElem hi, List.append_assoc]; rfl
theorem mix_length {α : Type} (l z : List α) (i : Nat) (h : l.length = z.length) (hi : i ≤ l.length) : (l.take i ++ z.drop i).length = l.length := by
 simp; omega
theorem mix_end {α : Type} (l z : List α) (h : l.length = z.length) : l.take l.length ++ z.drop l.length = l := by
 rw [List.take_length, h, List.drop_length, List.append_nil]
theorem drop_cons {α : Type} {l : List α} {i : Nat} (h : i < l.length) : l.drop i = l[i] :: l.drop (i + 1) := List.drop_eq_getElem_cons h
/-- All numbers of a list are from lo to hi. -/
def allB (lo hi : Int) (l : List Int) : Bool := l.all fun x => decide (lo ≤ x ∧ x ≤ hi)
theorem allB_cons (lo hi x : Int) (l : List Int) : allB lo hi (x :: l) = (decide (lo ≤ x ∧ x ≤ hi) && allB lo hi l) := rfl
theorem allB_iff {lo hi : Int} {l : List Int} : allB lo hi l = true ↔ ∀ x ∈ l, lo ≤ x ∧ x ≤ hi := by
 unfold allB
 rw [List.all_eq_true]
 simp only [decide_eq_true_eq]
theorem areIn_ev (l : List Int) (n lo hi : Int) (hl : l.length ≤ 17592186043904) : Ev (fun k => impl_areIn.f k l n lo hi) (decide ((l.length : Int) = n) && allB lo hi l) := by
 have H : ∀ i, i ≤ l.length → Ev (fun k => impl_areIn.l0 k l n lo hi l (l.length : Int) (i : Int)) (decide ((l.length : Int) = n) && allB lo hi (l.drop i)) := by
  refine down l.length ?_ ?_
  ·refine Ev.step (f := fun _ => some (decide ((l.length : Int) = n))) (fun k => ?_) ?_
   ·simp only [impl_areIn.l0]
    rw [if_neg (by omega)]; congr 1
   ·rw [List.drop_length]; simp only [allB, List.all_nil, Bool.and_true]; exact Ev.now _
  ·intro i h1 h
   rw [drop_cons h1, allB_cons]
   by_cases c : lo ≤ l[i] ∧ l[i] ≤ hi
   ·rw [decide_eq_true c, Bool.true_and]
    refine Ev.step (fun k => ?_) h
    simp only [impl_areIn.l0]
    rw [if_pos (by omega), if_pos (by omega), if_pos (by omega), rd_nat l i h1, within_eq, Option.bind_some, if_pos (decide_eq_true c), wrap_id (by omega) (by omega), cast1]
   ·rw [decide_eq_false c, Bool.false_and, Bool.and_false]
    refine Ev.step (f := fun _ => some false) (fun k => ?_) (Ev.now _)
    simp only [impl_areIn.l0]
    rw [if_pos (by omega), if_pos (by omega), if_pos (by omega), rd_nat l i h1, within_eq, Option.bind_some, if_neg (by simpa using c)]
 exact H 0 (by omega)
/-- How many binary figures a number has (at most w are looked at). -/
def figsF : Nat → Nat → Nat
 | 0, _ => 0
 | w + 1, x => if x = 0 then 0 else figsF w (x / 2) + 1
def figs (x : Nat) : Nat := figsF 64 x
/-- The last w binary figures of x, as the signs 48 and 49. -/
def fixL (x : Nat) : Nat → List Int
 | 0 => []
 | w + 1 => fixL (x / 2) w ++ [48 + ((x % 2 : Nat) : Int)]
def ueL (n : Nat) : List Int := fixL (n + 1) (2 * figs (n + 1) - 1)
theorem fixL_len (w : Nat) : ∀ x, (fixL x w).length = w := by
 induction w with
 | zero => intro x; rfl
 | succ w ih => intro x; simp [fixL, ih]
theorem figsF_lt (w : Nat) : ∀ x, x < 2 ^ w → ∀ v, w ≤ v → figsF v x = figsF w x := by
 induction w with
 | zero =>
  intro x hx v _
  have : x = 0 := by simpa using hx
  subst this
  cases v with
  | zero => rfl
  | succ v => simp [figsF]
 | succ w ih =>
  intro x hx v hv
  obtain ⟨v, rfl⟩ : ∃ m, v = m + 1 := ⟨v - 1, by omega⟩
  simp only [figsF]
  by_cases h0 : x = 0
  ·rw [if_pos h0, if_pos h0]
  ·rw [if_neg h0, if_neg h0, ih (x / 2) (by rw [Nat.pow_succ] at hx; omega) v (by omega)]
theorem figsF_le (w : Nat) : ∀ x, figsF w x ≤ w := by
 induction w with
 | zero => intro x; simp [figsF]
 | succ w ih =>
  intro x
  simp only [figsF]
  split
  ·omega
  ·have := ih (x / 2); omega
theorem figs_le (x : Nat) : figs x ≤ 64 := figsF_le 64 x
theorem figs_half {x : Nat} (h0 : 0 < x) (h : x < 2 ^ 64) : figs x = figs (x / 2) + 1 := by
 unfold figs
 rw [show figsF 64 x = figsF 63 (x / 2) + 1 by rw [show (64 : Nat) = 63 + 1 from rfl]; simp only [figsF]; rw [if_neg (by omega)]]
 rw [figsF_lt 63 (x / 2) (by omega) 64 (by omega)]
theorem figs_zero : figs 0 = 0 := rfl
theorem figs_pos {x : Nat} (h0 : 0 < x) (h : x < 2 ^ 64) : 0 < figs x := by rw [figs_half h0 h]; omega
theorem fixL_zero (w : Nat) : fixL 0 w = List.replicate w 48 := by
 induction w with
 | zero => rfl
 | succ w ih => simp only [fixL]; rw [ih, List.replicate_succ']; rfl
/-- More width: noughts ahead. -/
theorem fixL_more (w : Nat) : ∀ x, x < 2 ^ 64 → figs x ≤ w → fixL x w = List.replicate (w - figs x) 48 ++ fixL x (figs x) := by
 induction w with
 | zero =>
  intro x hx h
  have : figs x = 0 := by omega
  rw [this]; rfl
 | succ w ih =>
  intro x hx h
  by_cases h0 : x = 0
  ·subst h0; rw [fixL_zero, figs_zero]; simp [fixL]
  ·have e := figs_half (show 0 < x by omega) hx
   have i := ih (x / 2) (by omega) (by omega)
   have e2 : fixL x (figs x) = fixL (x / 2) (figs (x / 2)) ++ [48 + ((x % 2 : Nat) : Int)] := by rw [e]; rfl
   rw [e2, ← List.append_assoc]
   simp only [fixL]
   rw [i]
   congr 3
   omega
theorem ueL_eq (n : Nat) (h : n + 1 < 2 ^ 64) : ueL n = List.replicate (figs (n + 1) - 1) 48 ++ fixL (n + 1) (figs (n + 1)) := by
 have hp := figs_pos (x := n + 1) (by omega) h
 unfold ueL
 rw [fixL_more _ _ h (by omega)]
 congr 2
 omega
theorem ueL_len (n : Nat) : (ueL n).length ≤ 127 := by
 unfold ueL; rw [fixL_len]
 have := figs_le (n + 1)
 omega
theorem fixL_mem (w : Nat) : ∀ x, ∀ y ∈ fixL x w, y = 48 ∨ y = 49 := by
 induction w with
 | zero => intro x y hy; simp [fixL] at hy
 | succ w ih =>
  intro x y hy
  simp only [fixL, List.mem_append, List.mem_singleton] at hy
  rcases hy with hy | hy
  ·exact ih _ y hy
  ·omega
theorem ueL_mem (n : Nat) : ∀ y ∈ ueL n, y = 48 ∨ y = 49 := fixL_mem _ _
/-- Signs and counted numbers. -/
def foldN (x : Int) : Nat := if x > 0 then (2 * x - 1).toNat else (-2 * x).toNat
def isnz (x : Int) : Nat := if x = 0 then 0 else 1
def cntN (l : List Int) : Nat := (l.map isnz).sum
def rtL : Nat → List Int → List Int
 | _, [] => []
 | z, x :: l => if x = 0 then rtL (z + 1) l else ueL z ++ (ueL (foldN x) ++ rtL 0 l)
def runsL (l : List Int) : List Int := ueL (cntN l) ++ rtL 0 l
theorem rtL_len : ∀ (l : List Int) (z : Nat), (rtL z l).length ≤ 254 * l.length := by
 intro l
 induction l with
 | nil => intro z; simp [rtL]
 | cons x l ih =>
  intro z
  simp only [rtL]
  split
  ·have := ih (z + 1); simp only [List.length_cons]; omega
  ·have h1 := ueL_len z
   have h2 := ueL_len (foldN x)
   have h3 := ih 0
   simp only [List.length_append, List.length_cons]; omega
theorem strOfNums_append (a b : List Int) : strOfNums a ++ strOfNums b = strOfNums (a ++ b) := by
 apply ByteArray.ext
 simp [strOfNums, ByteArray.data_append]
theorem bytesOf_strOfNums {l : List Int} (h : ∀ x ∈ l, 0 ≤ x ∧ x ≤ 255) : bytesOf (strOfNums l) = l := by
 unfold bytesOf
 rw [strOfNums_data, List.map_map]
 conv => rhs; rw [← List.map_id l]
 apply List.map_congr_left
 intro x hx
 have := h x hx
 simp
 omega
theorem figs_loop (w : Nat) : ∀ (x c : Nat), x < 2 ^ w → w ≤ 63 → c + w ≤ 1000 → Ev (fun k => impl_figuresOf.l0 k (x : Int) (c : Int)) ((c + figs x : Nat) : Int) := by
 have hend : ∀ c : Nat, Ev (fun k => impl_figuresOf.l0 k ((0 : Nat) : Int) (c : Int)) ((c + figs 0 : Nat) : Int) := fun c =>
  Ev.step (f := fun _ => some ((c + figs 0 : Nat) : Int)) (fun k => by simp only [impl_figuresOf.l0]; rw [if_neg (by omega)]; rfl) (Ev.now _)
 induction w with
 | zero =>
  intro x c hx _ _
  have : x = 0 := by simpa using hx
  subst this; exact hend c
 | succ w ih =>
  intro x c hx hw hc
  have h64 : 2 ^ (w + 1) ≤ 2 ^ 64 := Nat.pow_le_pow_right (by decide) (by omega)
  by_cases h0 : x = 0
  ·subst h0; exact hend c
  ·have e := figs_half (show 0 < x by omega) (by omega)
   have i := ih (x / 2) (c + 1) (by rw [Nat.pow_succ] at hx; omega) (by omega) (by omega)
   rw [show c + figs x = c + 1 + figs (x / 2) by omega]
   refine Ev.step (fun k => ?_) i
   simp only [impl_figuresOf.l0]
   rw [if_pos (by omega), wrap_id (by omega) (by omega), cast1, show ((x : Int) / 2) = ((x / 2 : Nat) : Int) by omega]
theorem figs_ev (x : Nat) (hx : x < 2 ^ 63) : Ev (fun k => impl_figuresOf.f k (x : Int)) (figs x : Int) := by
 have h := figs_loop 63 x 0 hx (by omega) (by omega)
 rw [Nat.zero_add] at h
 exact h
theorem i64_and1 (x : Nat) (hx : x < 2 ^ 63) : Go.bits .and .i64 (x : Int) 1 = ((x % 2 : Nat) : Int) := by
 have h := bits_mask .i64 63 (by decide) (fun n h0 h1 => by rw [IntKind.wrap_i64]; omega) 1 (by decide) (x : Int) (by omega) (by omega)
 rw [show ((2 : Int) ^ 1 - 1) = 1 from rfl, show ((2 : Int) ^ 1) = 2 from rfl] at h
 rw [h]; omega
theorem rep_set (v : Nat) (d : Int) (tail : List Int) : (List.replicate (v + 1) (0 : Int) ++ tail).set v d = List.replicate v 0 ++ ([d] ++ tail) := by
 rw [List.replicate_succ', List.append_assoc, List.set_append_right _ _ (by simp), show v - (List.replicate v (0 : Int)).length = 0 by simp]
 rfl
theorem signs_loop (v : Nat) : ∀ (x : Nat) (tail : List Int), x < 2 ^ 63 → v ≤ 1000 → Ev (fun k => impl_signs.l0 k (x : Int) (List.replicate v 0 ++ tail) ((v : Int) - 1)) (strOfNums (fixL x v ++ tail)) := by
 induction v with
 | zero =>
  intro x tail _ _
  refine Ev.step (f := fun _ => some (strOfNums tail)) (fun k => ?_) (Ev.now _)
  simp only [impl_signs.l0]
  rw [if_neg (by omega)]; rfl
 | succ v ih =>
  intro x tail hx hv
  have i := ih (x / 2) ([48 + ((x % 2 : Nat) : Int)] ++ tail) (by omega) (by omega)
  rw [show fixL x (v + 1) ++ tail = fixL (x / 2) v ++ ([48 + ((x % 2 : Nat) : Int)] ++ tail) by simp only [fixL]; rw [List.append_assoc]]
  refine Ev.step (fun k => ?_) i
  simp only [impl_signs.l0]
  rw [if_pos (by omega), if_pos (by omega), if_pos (by simp; omega), i64_and1 x hx, wrap_id (x := 48 + ((x % 2 : Nat) : Int)) (by omega) (by omega), show (48 + ((x % 2 : Nat) : Int)) % 256 = 48 + ((x % 2 : Nat) : Int) by omega, show (((v + 1 : Nat) : Int) - 1) = (v : Int) by omega, Int.toNat_natCast, rep_set, show ((x : Int) / 2) = ((x / 2 : Nat) : Int) by omega, wrap_id (by omega) (by omega)]
theorem signs_ev (x w : Nat) (hx : x < 2 ^ 63) (hw : w ≤ 1000) : Ev (fun k => impl_signs.f k (x : Int) (w : Int)) (strOfNums (fixL x w)) := by
 have h := signs_loop w x [] hx hw
 rw [List.append_nil, List.append_nil] at h
 unfold impl_signs.f
 refine Ev.congr (fun k => ?_) h
 rw [if_pos (by omega), if_pos (by rw [Int.toNat_natCast]; omega), Int.toNat_natCast, wrap_id (by omega) (by omega)]
theorem ue_ev (n : Nat) (hn : n < 1000000000000) : Ev (fun k => impl_ue.f k (n : Int)) (strOfNums (ueL n)) := by
 have hp := figs_pos (x := n + 1) (by omega) (by omega)
 have hle := figs_le (n + 1)
 have h1 := figs_ev (n + 1) (by omega)
 have h2 := signs_ev (n + 1) (2 * figs (n + 1) - 1) (by omega) (by omega)
 unfold impl_ue.f
 refine Ev.congr (f := fun k => (impl_figuresOf.f k ((n + 1 : Nat) : Int)).bind fun t => ((impl_signs.f k ((n + 1 : Nat) : Int) (wrap64 ((wrap64 (2 * t)) - 1))).bind fun t138 => (some t138))) (fun k => by rw [wrap_id (x := (n : Int) + 1) (by omega) (by omega)]; rfl) (Ev.bind h1 ?_)
 rw [wrap_id (x := 2 * (figs (n + 1) : Int)) (by omega) (by omega), wrap_id (by omega) (by omega), show (2 * (figs (n + 1) : Int) - 1) = ((2 * figs (n + 1) - 1 : Nat) : Int) by omega]
 exact Ev.bind h2 (Ev.now _)
theorem fold_lt {x : Int} (h0 : -500000 ≤ x) (h1 : x ≤ 500000) : foldN x ≤ 1000000 := by unfold foldN; split <;> omega
theorem fold_eq (x : Int) (h0 : -500000 ≤ x) (h1 : x ≤ 500000) : impl_FoldSe.f x = some ((foldN x : Int), true) := by
 unfold impl_FoldSe.f foldN
 rw [within_eq, Option.bind_some, if_pos (decide_eq_true ⟨h0, h1⟩)]
 by_cases c : x > 0
 ·rw [if_pos c, if_pos c, wrap_id (x := 2 * x) (by omega) (by omega), wrap_id (by omega) (by omega), Int.toNat_of_nonneg (by omega)]
 ·rw [if_neg c, if_neg c, wrap_id (by omega) (by omega), Int.toNat_of_nonneg (by omega)]
theorem cntN_cons (x : Int) (l : List Int) : cntN (x :: l) = isnz x + cntN l := by simp [cntN]
theorem cntN_le (l : List Int) : cntN l ≤ l.length := by
 induction l with
 | nil => simp [cntN]
 | cons x l ih => rw [cntN_cons]; unfold isnz; simp only [List.length_cons]; split <;> omega
theorem bytes_row {l : List Int} (h : ∀ y ∈ l, y = 48 ∨ y = 49) : bytesOf (strOfNums l) = l :=
 bytesOf_strOfNums fun x hx => by rcases h x hx with e | e <;> omega
theorem runs_l1 (l : List Int) (hl : l.length ≤ 64) (hb : allB (-5000) 5000 l = true) :
  ∀ i : Nat, i ≤ l.length → ∀ (out : List Int) (z : Nat), out.length ≤ 300 * i + 300 → z ≤ i → Ev (fun k => impl_runs.l1 k out (z : Int) l (l.length : Int) (i : Int)) (out ++ rtL z (l.drop i)) := by
 refine down l.length ?_ ?_
 ·intro out z _ _
  rw [List.drop_length, rtL, List.append_nil]
  refine Ev.step (f := fun _ => some out) (fun k => ?_) (Ev.now _)
  simp only [impl_runs.l1]
  rw [if_neg (by omega)]
 ·intro i hi h out z ho hz
  have hm := allB_iff.1 hb _ (List.getElem_mem hi)
  rw [drop_cons hi]
  by_cases c : l[i] = 0
  ·have h' := h out (z + 1) (by omega) (by omega)
   rw [rtL, if_pos c]
   refine Ev.step (fun k => ?_) h'
   simp only [impl_runs.l1]
   rw [if_pos (by omega), if_pos (by omega), if_pos (by omega), rd_nat l i hi, if_pos c, wrap_id (x := (z : Int) + 1) (by omega) (by omega), wrap_id (by omega) (by omega), cast1, cast1]
  ·have lz := ueL_len z
   have lf := ueL_len (foldN l[i])
   have h' := h (out ++ ueL z ++ ueL (foldN l[i])) 0 (by simp only [List.length_append]; omega) (by omega)
   have hu := ue_ev z (by omega)
   have hf := ue_ev (foldN l[i]) (by have := fold_lt (x := l[i]) (by omega) (by omega); omega)
   rw [rtL, if_neg c]
   rw [show out ++ (ueL z ++ (ueL (foldN l[i]) ++ rtL 0 (l.drop (i + 1)))) = out ++ ueL z ++ ueL (foldN l[i]) ++ rtL 0 (l.drop (i + 1)) by simp only [List.append_assoc]]
   refine Ev.step (f := fun k => (impl_ue.f k (z : Int)).bind fun t151 => (if out.length + t151.size < 140737488355328 then ((some (out ++ bytesOf t151 : List Int)).bind fun y152 => ((impl_ue.f k (foldN l[i] : Int)).bind fun t155 => (if y152.length + t155.size < 140737488355328 then (impl_runs.l1 k (y152 ++ bytesOf t155) 0 l (l.length : Int) ((i + 1 : Nat) : Int)) else (none)))) else (none))) (fun k => ?_) (Ev.bind hu ?_)
   ·simp only [impl_runs.l1]
    rw [if_pos (by omega), if_pos (by omega), if_pos (by omega), rd_nat l i hi, if_neg c, fold_eq _ (by omega) (by omega), Option.bind_some, wrap_id (x := (i : Int) + 1) (by omega) (by omega), cast1]
   ·rw [bytes_row (ueL_mem z)]
    have e1 : out.length + (strOfNums (ueL z)).size < 140737488355328 := by rw [strOfNums_size]; omega
    have e2 : (out ++ ueL z).length + (strOfNums (ueL (foldN l[i]))).size < 140737488355328 := by rw [strOfNums_size, List.length_append]; omega
    simp only [e1, if_true, Option.bind_some]
    refine Ev.bind hf ?_
    simp only [e2, if_true]
    rw [bytes_row (ueL_mem _)]
    exact h'
theorem runs_l0 (l : List Int) (hl : l.length ≤ 64) (hb : allB (-5000) 5000 l = true) :
  ∀ i : Nat, i ≤ l.length → ∀ (c : Nat), c ≤ i → Ev (fun k => impl_runs.l0 k l [] (c : Int) l (l.length : Int) (i : Int)) (ueL (c + cntN (l.drop i)) ++ rtL 0 l) := by
 refine down l.length ?_ ?_
 ·intro c hc
  rw [List.drop_length, show cntN [] = 0 from rfl, Nat.add_zero]
  have hu := ue_ev c (by omega)
  have h1 := runs_l1 l hl hb 0 (by omega) (ueL c) 0 (by have := ueL_len c; omega) (by omega)
  rw [List.drop_zero] at h1
  refine Ev.step (f := fun k => (impl_ue.f k (c : Int)).bind fun t144 => (if ([] : List Int).length + t144.size < 140737488355328 then (impl_runs.l1 k ([] ++ bytesOf t144) 0 l (l.length : Int) 0) else (none))) (fun k => ?_) (Ev.bind hu ?_)
  ·simp only [impl_runs.l0]
   rw [if_neg (by omega)]
  ·rw [bytes_row (ueL_mem c)]
   have e1 : ([] : List Int).length + (strOfNums (ueL c)).size < 140737488355328 := by rw [strOfNums_size]; have := ueL_len c; simp; omega
   simp only [e1, if_true, List.nil_append]
   exact h1
 ·intro i hi h c hc
  rw [drop_cons hi, cntN_cons]
  by_cases c0 : l[i] = 0
  ·have h' := h c (by omega)
   rw [show isnz l[i] = 0 by unfold isnz; rw [if_pos c0], Nat.zero_add]
   refine Ev.step (fun k => ?_) h'
   simp only [impl_runs.l0]
   rw [if_pos (by omega), if_pos (by omega), if_pos (by omega), rd_nat l i hi, if_pos c0, wrap_id (by omega) (by omega), cast1]
  ·have h' := h (c + 1) (by omega)
   rw [show isnz l[i] = 1 by unfold isnz; rw [if_neg c0], ← Nat.add_assoc]
   refine Ev.step (fun k => ?_) h'
   simp only [impl_runs.l0]
   rw [if_pos (by omega), if_pos (by omega), if_pos (by omega), rd_nat l i hi, if_neg c0, wrap_id (x := (c : Int) + 1) (by omega) (by omega), wrap_id (by omega) (by omega), cast1, cast1]
theorem runs_ev (l : List Int) (hl : l.length ≤ 64) (hb : allB (-5000) 5000 l = true) : Ev (fun k => impl_runs.f k l) (runsL l) := by
 have h := runs_l0 l hl hb 0 (by omega) 0 (by omega)
 rw [List.drop_zero, Nat.zero_add] at h
 exact h
theorem and_le (x : Int) (m : Nat) (hm : m < 9223372036854775808) : 0 ≤ Go.bits .and .i64 x (m : Int) ∧ Go.bits .and .i64 x (m : Int) ≤ (m : Int) := by
 have h : (BitVec.ofInt 64 x &&& BitVec.ofInt 64 (m : Int)).toNat ≤ m := by
  rw [BitVec.toNat_and]
  refine Nat.le_trans Nat.and_le_right ?_
  rw [BitVec.ofInt_natCast, BitVec.toNat_ofNat]
  exact Nat.mod_le _ _
 have e : Go.bits .and .i64 x (m : Int) = IntKind.i64.wrap (((BitVec.ofInt 64 x &&& BitVec.ofInt 64 (m : Int)).toNat : Nat) : Int) := rfl
 rw [e, IntKind.wrap_i64]
 omega
/-- n bytes from i on are signs. -/
def signB (s : ByteArray) : Nat → Nat → Bool
 | 0, _ => true
 | n + 1, i => (decide (bt s (i : Int) = 48) || decide (bt s (i : Int) = 49)) && signB s n (i + 1)
def rowB (s : ByteArray) : Bool := decide (s.size ≤ 400000) && signB s s.size 0
theorem signB_at (s : ByteArray) (n : Nat) : ∀ i, signB s n i = true → ∀ j, i ≤ j → j < i + n → bt s (j : Int) = 48 ∨ bt s (j : Int) = 49 := by
 induction n with
 | zero => intro i _ j h1 h2; omega
 | succ n ih =>
  intro i h j h1 h2
  rw [signB, Bool.and_eq_true, Bool.or_eq_true, decide_eq_true_eq, decide_eq_true_eq] at h
  by_cases e : j = i
  ·subst e; exact h.1
  ·exact ih (i + 1) h.2 j (by omega) (by omega)
theorem rowB_at {s : ByteArray} (h : rowB s = true) : s.size ≤ 400000 ∧ ∀ j, j < s.size → bt s (j : Int) = 48 ∨ bt s (j : Int) = 49 := by
 unfold rowB at h
 rw [Bool.and_eq_true, decide_eq_true_eq] at h
 exact ⟨h.1, fun j hj => signB_at s _ 0 h.2 j (by omega) (by omega)⟩
theorem row_loop (s : ByteArray) (hs : s.size ≤ 400000) : ∀ i, i ≤ s.size → Ev (fun k => impl_RowOk.l0 k s (i : Int)) (signB s (s.size - i) i) := by
 refine down s.size ?_ ?_
 ·refine Ev.step (f := fun _ => some true) (fun k => ?_) (by rw [Nat.sub_self]; exact Ev.now _)
  simp only [impl_RowOk.l0]
  rw [if_neg (by omega)]
 ·intro i hi h
  rw [show s.size - i = (s.size - (i + 1)) + 1 by omega, signB]
  by_cases c0 : bt s (i : Int) = 48
  ·rw [decide_eq_true c0, Bool.true_or, Bool.true_and]
   refine Ev.step (fun k => ?_) h
   simp only [impl_RowOk.l0]
   rw [if_pos (by omega), if_pos (by omega), if_pos c0, wrap_id (by omega) (by omega), cast1]
  ·rw [decide_eq_false c0, Bool.false_or]
   by_cases c1 : bt s (i : Int) = 49
   ·rw [decide_eq_true c1, Bool.true_and]
    refine Ev.step (fun k => ?_) h
    simp only [impl_RowOk.l0]
    rw [if_pos (by omega), if_pos (by omega), if_neg c0, if_pos c1, wrap_id (by omega) (by omega), cast1]
   ·rw [decide_eq_false c1, Bool.false_and]
    refine Ev.step (f := fun _ => some false) (fun k => ?_) (Ev.now _)
    simp only [impl_RowOk.l0]
    rw [if_pos (by omega), if_pos (by omega), if_neg c0, if_neg c1]
theorem row_ev (s : ByteArray) : Ev (fun k => impl_RowOk.f k s) (rowB s) := by
 unfold impl_RowOk.f rowB
 by_cases c : s.size ≤ 400000
 ·rw [decide_eq_true c, Bool.true_and]
  exact Ev.congr (fun k => by rw [if_neg (by omega)] <;> rfl) (row_loop s c 0 (by omega))
 ·rw [decide_eq_false c, Bool.false_and]
  exact Ev.congr (f := fun _ => some false) (fun k => by rw [if_pos (by omega)]) (Ev.now _)
/-- The number that n signs from p on tell, behind a. -/
def bv (s : ByteArray) : Nat → Nat → Int → Int
 | 0, _, a => a
 | n + 1, p, a => bv s n (p + 1) (2 * a + (bt s (p : Int) - 48))
/-- A row of signs. -/
def RowR (s : ByteArray) : Prop := s.size ≤ 400000 ∧ ∀ j, j < s.size → bt s (j : Int) = 48 ∨ bt s (j : Int) = 49
theorem pow_step {a b : Int} {n : Nat} (h : (a + 1) * 2 ^ (n + 1) ≤ 2199023255552) (hb : b ≤ 2 * a + 1) : (b + 1) * 2 ^ n ≤ 2199023255552 := by
 have e : (a + 1) * 2 ^ (n + 1) = (2 * a + 2) * 2 ^ n := by rw [Int.pow_succ]; rw [Int.mul_comm (2 ^ n) 2, ← Int.mul_assoc]; congr 1; omega
 rw [e] at h
 have : (b + 1) * 2 ^ n ≤ (2 * a + 2) * 2 ^ n := Int.mul_le_mul_of_nonneg_right (by omega) (Int.le_of_lt (Int.pow_pos (by omega)))
 omega
theorem pow_small {a : Int} {n : Nat} (h0 : 0 ≤ a) (h : (a + 1) * 2 ^ n ≤ 2199023255552) : a ≤ 2199023255552 := by
 have h1 : (1 : Int) ≤ 2 ^ n := Int.pow_pos (by omega)
 have : (a + 1) * 1 ≤ (a + 1) * 2 ^ n := Int.mul_le_mul_of_nonneg_left h1 (by omega)
 omega
theorem or_bit (a b : Nat) (ha : a < 1152921504606846976) (hb : b < 2) : Go.bits .or .i64 ((2 * a : Nat) : Int) (b : Int) = ((2 * a + b : Nat) : Int) := by
 have e : Go.bits .or .i64 ((2 * a : Nat) : Int) (b : Int) = IntKind.i64.wrap (((BitVec.ofInt 64 ((2 * a : Nat) : Int) ||| BitVec.ofInt 64 (b : Int)).toNat : Nat) : Int) := rfl
 have o : 2 * a ||| b = 2 * a + b := by
  have h := Nat.shiftLeft_add_eq_or_of_lt (i := 1) (b := b) (by omega) a
  rw [Nat.shiftLeft_eq] at h
  rw [show 2 * a = a * 2 ^ 1 by omega]
  exact h.symm
 rw [e, BitVec.ofInt_natCast, BitVec.ofInt_natCast, BitVec.toNat_or, BitVec.toNat_ofNat, BitVec.toNat_ofNat, Nat.mod_eq_of_lt (by omega), Nat.mod_eq_of_lt (by omega), o, IntKind.wrap_i64]
 omega
theorem fix_loop (s : ByteArray) (hr : RowR s) (p n0 : Nat) (bad : Bool) (hp : p + n0 ≤ s.size) (n : Nat) : ∀ (q : Nat) (a : Int), q + n = n0 → 0 ≤ a → (a + 1) * 2 ^ n ≤ 2199023255552 →
  Ev (fun k => impl_scan_fix.l0 k (n0 : Int) a (q : Int) s (p : Int) bad) (bv s n (p + q) a, s, ((p + n0 : Nat) : Int), bad) := by
 have hsz := hr.1
 have w0 : wrap64 ((p : Int) + (n0 : Int)) = ((p + n0 : Nat) : Int) := by rw [wrap_id (by omega) (by omega)]; omega
 induction n with
 | zero =>
  intro q a e h0 h1
  refine Ev.step (f := fun _ => some (a, s, ((p + n0 : Nat) : Int), bad)) (fun k => ?_) (Ev.now _)
  simp only [impl_scan_fix.l0]
  rw [w0, if_neg (by clear w0; omega)]
 | succ n ih =>
  intro q a e h0 h1
  have hb := hr.2 (p + q) (by clear w0; omega)
  have hs := pow_small h0 h1
  have e1 : Go.bits .or .i64 (wrap64 (a * 2)) ((bt s ((p + q : Nat) : Int) - 48) % 256) = 2 * a + (bt s ((p + q : Nat) : Int) - 48) := by
   clear w0
   generalize bt s ((p + q : Nat) : Int) = b at hb ⊢
   obtain ⟨m, rfl⟩ := Int.eq_ofNat_of_zero_le h0
   rw [wrap_id (x := (m : Int) * 2) (by omega) (by omega), show (m : Int) * 2 = ((2 * m : Nat) : Int) by omega]
   rcases hb with rfl | rfl
   ·rw [show ((48 : Int) - 48) % 256 = ((0 : Nat) : Int) by decide, or_bit m 0 (by omega) (by omega)]; omega
   ·rw [show ((49 : Int) - 48) % 256 = ((1 : Nat) : Int) by decide, or_bit m 1 (by omega) (by omega)]; omega
  have e2 : wrap64 ((q : Int) + 1) = ((q + 1 : Nat) : Int) := by clear w0 e1; rw [wrap_id (by omega) (by omega)]; omega
  have e3 : wrap64 ((p : Int) + (q : Int)) = ((p + q : Nat) : Int) := by clear w0 e1 e2; rw [wrap_id (by omega) (by omega)]; omega
  have h' := ih (q + 1) (2 * a + (bt s ((p + q : Nat) : Int) - 48)) (by clear w0 e1 e2 e3; omega) (by clear w0 e1 e2 e3; omega) (pow_step h1 (by clear w0 e1 e2 e3; omega))
  refine Ev.step (fun k => ?_) h'
  simp only [impl_scan_fix.l0]
  rw [if_pos (by clear w0 e1 e2 e3; omega), e3, if_pos (by clear w0 e1 e2 e3; omega), if_pos (by clear w0 e1 e2 e3; omega), e1, e2]
/-- What the program's fix answers: the number, and the state behind it. -/
def fixR (s : ByteArray) (p n : Nat) (bad : Bool) : Int × ByteArray × Int × Bool := if bad = false ∧ p + n ≤ s.size then (bv s n p 0, s, ((p + n : Nat) : Int), false) else (0, s, (p : Int), true)
theorem fix_ev (s : ByteArray) (hr : RowR s) (p n : Nat) (bad : Bool) (hp : p ≤ s.size) (hn : n ≤ 41) (hb : bad = false → n ≤ 41) : Ev (fun k => impl_scan_fix.f k s (p : Int) bad (n : Int)) (fixR s p n bad) := by
 have hsz := hr.1
 have hbad : ∀ b : Bool, Ev (fun k => impl_scan_fix.j0 k (n : Int) true s (p : Int) b) (0, s, (p : Int), true) := fun b => Ev.step (f := fun _ => some (0, s, (p : Int), true)) (fun k => by simp only [impl_scan_fix.j0]; rfl) (Ev.now _)
 unfold impl_scan_fix.f fixR
 cases bad with
 | true =>
  rw [if_neg (by simp)]
  exact Ev.congr (fun k => by rw [if_pos rfl]) (hbad true)
 | false =>
  have w0 : wrap64 ((s.size : Int) - (p : Int)) = (s.size : Int) - (p : Int) := wrap_id (by omega) (by omega)
  rw [w0]
  clear w0
  by_cases c : p + n ≤ s.size
  ·rw [if_pos ⟨rfl, c⟩]
   have hpow : ((0 : Int) + 1) * 2 ^ n ≤ 2199023255552 := by
    have : (2 : Int) ^ n ≤ 2 ^ 41 := by
     have := Nat.pow_le_pow_right (show 0 < 2 by omega) hn
     exact_mod_cast this
    omega
   have h := fix_loop s hr p n false c n 0 0 (by omega) (by omega) hpow
   have hd : decide ((s.size : Int) - (p : Int) < (n : Int)) = false := decide_eq_false (by omega)
   rw [hd]
   refine Ev.congr (f := fun k => impl_scan_fix.j0 k (n : Int) false s (p : Int) false) (fun k => by rw [if_neg (by simp)]) (Ev.step (fun k => ?_) h)
   simp only [impl_scan_fix.j0, Bool.false_eq_true, if_false]
   rfl
  ·rw [if_neg (fun h => c h.2)]
   have hd : decide ((s.size : Int) - (p : Int) < (n : Int)) = true := decide_eq_true (by omega)
   rw [hd]
   exact Ev.congr (fun k => by rw [if_neg (by simp)]) (hbad false)
/-- How many noughts stand from p on, of n bytes. -/
def zc (s : ByteArray) : Nat → Nat → Nat
 | 0, _ => 0
 | n + 1, p => if bt s (p : Int) = 48 then zc s n (p + 1) + 1 else 0
theorem zc_le (s : ByteArray) (n : Nat) : ∀ p, zc s n p ≤ n := by
 induction n with
 | zero => intro p; rw [zc]; omega
 | succ n ih => intro p; rw [zc]; have := ih (p + 1); split <;> omega
theorem zc_lt (s : ByteArray) (n : Nat) : ∀ p z, z < zc s n p → bt s ((p + z : Nat) : Int) = 48 := by
 induction n with
 | zero => intro p z h; rw [zc] at h; omega
 | succ n ih =>
  intro p z h
  rw [zc] at h
  by_cases c : bt s (p : Int) = 48
  ·rw [if_pos c] at h
   cases z with
   | zero => rw [Nat.add_zero]; exact c
   | succ z => rw [show p + (z + 1) = (p + 1) + z by omega]; exact ih (p + 1) z (by omega)
  ·rw [if_neg c] at h; omega
theorem zc_end (s : ByteArray) (n : Nat) : ∀ p, zc s n p < n → bt s ((p + zc s n p : Nat) : Int) ≠ 48 := by
 induction n with
 | zero => intro p h; omega
 | succ n ih =>
  intro p h
  by_cases c : bt s (p : Int) = 48
  ·have e : zc s (n + 1) p = zc s n (p + 1) + 1 := by rw [zc, if_pos c]
   rw [e] at h ⊢
   rw [show p + (zc s n (p + 1) + 1) = (p + 1) + zc s n (p + 1) by omega]
   exact ih (p + 1) (by omega)
  ·have e : zc s (n + 1) p = 0 := by rw [zc, if_neg c]
   rw [e, Nat.add_zero]; exact c
def nz (s : ByteArray) (p : Nat) : Nat := zc s (s.size - p) p
def ueN (s : ByteArray) (p : Nat) : Int := bv s (2 * nz s p + 1) p 0 - 1
def ueE (s : ByteArray) (p : Nat) : Nat := p + (2 * nz s p + 1)
/-- A number can be read from p on. -/
def UeOk (s : ByteArray) (p : Nat) : Prop := nz s p ≤ 20 ∧ ueE s p ≤ s.size ∧ ueN s p ≤ 1000000
instance (s : ByteArray) (p : Nat) : Decidable (UeOk s p) := by unfold UeOk; infer_instance
theorem bv_in (s : ByteArray) (hr : RowR s) (n : Nat) : ∀ (q : Nat) (a : Int), q + n ≤ s.size → 0 ≤ a → a * 2 ^ n ≤ bv s n q a ∧ bv s n q a < (a + 1) * 2 ^ n := by
 induction n with
 | zero => intro q a _ _; rw [bv, Int.pow_zero, Int.mul_one, Int.mul_one]; omega
 | succ n ih =>
  intro q a hq h0
  have hb := hr.2 q (by omega)
  rw [bv]
  generalize bt s (q : Int) = b at hb ⊢
  have h := ih (q + 1) (2 * a + (b - 48)) (by omega) (by omega)
  have hp : (0 : Int) < 2 ^ n := Int.pow_pos (by omega)
  have e : ∀ c : Int, c * 2 ^ (n + 1) = (2 * c) * 2 ^ n := by intro c; rw [Int.pow_succ, Int.mul_comm (2 ^ n) 2, ← Int.mul_assoc, Int.mul_comm c 2]
  rw [e, e]
  have h1 : (2 * a) * 2 ^ n ≤ (2 * a + (b - 48)) * 2 ^ n := Int.mul_le_mul_of_nonneg_right (by omega) (Int.le_of_lt hp)
  have h2 : (2 * a + (b - 48) + 1) * 2 ^ n ≤ (2 * (a + 1)) * 2 ^ n := Int.mul_le_mul_of_nonneg_right (by omega) (Int.le_of_lt hp)
  omega
theorem fixbad_ev (s : ByteArray) (q n : Int) : Ev (fun k => impl_scan_fix.f k s q true n) (0, s, q, true) := by
 unfold impl_scan_fix.f
 refine Ev.congr (f := fun k => impl_scan_fix.j0 k n true s q true) (fun k => by rw [if_pos rfl]) (Ev.step (f := fun _ => some (0, s, q, true)) (fun k => by simp only [impl_scan_fix.j0]; rfl) (Ev.now _))
theorem uebad_ev (s : ByteArray) (q : Int) : Ev (fun k => impl_scan_ue.f k s q true) (0, s, q, true) := by
 unfold impl_scan_ue.f
 refine Ev.step (f := fun k => impl_scan_ue.j1 k 0 s q true) (fun k => by simp only [impl_scan_ue.l0]; rfl) ?_
 refine Ev.step (f := fun k => (impl_scan_fix.f k s q true (wrap64 ((wrap64 (2 * 0)) + 1))).bind fun bt179 => (if bt179.2.2.2 = true then (some (0, bt179.2.1, bt179.2.2.1, true)) else (if (wrap64 (bt179.1 - 1)) > 1000000 then (some (0, bt179.2.1, bt179.2.2.1, true)) else (some (wrap64 (bt179.1 - 1), bt179.2.1, bt179.2.2.1, bt179.2.2.2))))) (fun k => by simp only [impl_scan_ue.j1]; rw [if_neg (by omega)]) (Ev.bind (fixbad_ev s q _) ?_)
 exact Ev.now _
theorem ue_loop (s : ByteArray) (hr : RowR s) (p : Nat) (hp : p ≤ s.size) (R : Int × ByteArray × Int × Bool) (h : Ev (fun k => impl_scan_ue.j1 k (nz s p : Int) s (p : Int) false) R) :
  ∀ z, z ≤ nz s p → Ev (fun k => impl_scan_ue.l0 k (z : Int) s (p : Int) false) R := by
 have hsz := hr.1
 have hle := zc_le s (s.size - p) p
 have hn : nz s p = zc s (s.size - p) p := rfl
 refine down (nz s p) ?_ ?_
 ·have e3 : wrap64 ((p : Int) + (nz s p : Int)) = ((p + nz s p : Nat) : Int) := by rw [wrap_id (by omega) (by omega)]; omega
  refine Ev.step (fun k => ?_) h
  simp only [impl_scan_ue.l0, Bool.false_eq_true, if_false]
  rw [e3]
  clear e3
  by_cases c : p + nz s p < s.size
  ·have hz : bt s ((p + nz s p : Nat) : Int) ≠ 48 := zc_end s (s.size - p) p (by omega)
   rw [if_pos (by omega), if_pos (by omega), if_neg hz]
  ·rw [if_neg (by omega)]
 ·intro z hz h'
  have hb := zc_lt s (s.size - p) p z (by omega)
  have e3 : wrap64 ((p : Int) + (z : Int)) = ((p + z : Nat) : Int) := by rw [wrap_id (by omega) (by omega)]; omega
  have e4 : wrap64 ((z : Int) + 1) = ((z + 1 : Nat) : Int) := by clear e3; rw [wrap_id (by omega) (by omega)]; omega
  refine Ev.step (fun k => ?_) h'
  simp only [impl_scan_ue.l0, Bool.false_eq_true, if_false]
  rw [e3, e4]
  clear e3 e4
  rw [if_pos (by omega), if_pos (by omega), if_pos hb]
theorem ue_ok (s : ByteArray) (hr : RowR s) (p : Nat) (hp : p ≤ s.size) (h : UeOk s p) : Ev (fun k => impl_scan_ue.f k s (p : Int) false) (ueN s p, s, (ueE s p : Int), false) := by
 obtain ⟨h1, h2, h3⟩ := h
 unfold impl_scan_ue.f
 refine ue_loop s hr p hp _ ?_ 0 (by omega)
 have hf := fix_ev s hr p (2 * nz s p + 1) false hp (by omega) (by omega)
 unfold fixR at hf
 rw [if_pos ⟨rfl, h2⟩] at hf
 have hv := bv_in s hr (2 * nz s p + 1) p 0 h2 (by omega)
 have hw : wrap64 (bv s (2 * nz s p + 1) p 0 - 1) = ueN s p := by
  unfold ueN at h3 ⊢
  exact wrap_id (by omega) (by omega)
 have e1 : wrap64 (wrap64 (2 * (nz s p : Int)) + 1) = ((2 * nz s p + 1 : Nat) : Int) := by clear hw; rw [wrap_id (x := 2 * (nz s p : Int)) (by omega) (by omega), wrap_id (by omega) (by omega)]; omega
 refine Ev.step (fun k => by simp only [impl_scan_ue.j1]; rw [if_neg (by clear hw e1; omega), e1]) (Ev.bind hf ?_)
 have g : ¬ (ueN s p > 1000000) := by clear hw e1; omega
 simp only [Bool.false_eq_true, if_false, hw, g]
 exact Ev.now _
theorem ue_no (s : ByteArray) (hr : RowR s) (p : Nat) (hp : p ≤ s.size) (h : ¬ UeOk s p) : ∃ q : Int, Ev (fun k => impl_scan_ue.f k s (p : Int) false) (0, s, q, true) := by
 have hle := zc_le s (s.size - p) p
 have hn : nz s p = zc s (s.size - p) p := rfl
 have hsz := hr.1
 by_cases h1 : nz s p ≤ 20
 ·have hf := fix_ev s hr p (2 * nz s p + 1) false hp (by omega) (by omega)
  unfold fixR at hf
  have e1 : wrap64 (wrap64 (2 * (nz s p : Int)) + 1) = ((2 * nz s p + 1 : Nat) : Int) := by rw [wrap_id (x := 2 * (nz s p : Int)) (by omega) (by omega), wrap_id (by omega) (by omega)]; omega
  by_cases h2 : p + (2 * nz s p + 1) ≤ s.size
  ·rw [if_pos ⟨rfl, h2⟩] at hf
   have hv := bv_in s hr (2 * nz s p + 1) p 0 h2 (by omega)
   have hb : (2 : Int) ^ (2 * nz s p + 1) ≤ 2 ^ 41 := by
    have := Nat.pow_le_pow_right (show 0 < 2 by omega) (show 2 * nz s p + 1 ≤ 41 by omega)
    exact_mod_cast this
   have hw : wrap64 (bv s (2 * nz s p + 1) p 0 - 1) = ueN s p := by
    unfold ueN
    clear e1
    exact wrap_id (by omega) (by omega)
   have h3 : ueN s p > 1000000 := by
    clear hw e1
    apply Int.not_le.1
    intro h3
    exact h ⟨h1, h2, h3⟩
   refine ⟨((p + (2 * nz s p + 1) : Nat) : Int), ?_⟩
   unfold impl_scan_ue.f
   refine ue_loop s hr p hp _ ?_ 0 (by clear hw e1; omega)
   refine Ev.step (fun k => by simp only [impl_scan_ue.j1]; rw [if_neg (by clear hw e1; omega), e1]) (Ev.bind hf ?_)
   simp only [Bool.false_eq_true, if_false, hw, h3, if_true]
   exact Ev.now _
  ·rw [if_neg (fun hq => h2 hq.2)] at hf
   refine ⟨(p : Int), ?_⟩
   unfold impl_scan_ue.f
   refine ue_loop s hr p hp _ ?_ 0 (by clear e1; omega)
   refine Ev.step (fun k => by simp only [impl_scan_ue.j1]; rw [if_neg (by clear e1; omega), e1]) (Ev.bind hf ?_)
   simp only [if_true]
   exact Ev.now _
 ·refine ⟨(p : Int), ?_⟩
  unfold impl_scan_ue.f
  refine ue_loop s hr p hp _ ?_ 0 (by omega)
  refine Ev.step (fun k => by simp only [impl_scan_ue.j1]; rw [if_pos (by omega)]) (Ev.bind (fixbad_ev s (p : Int) _) ?_)
  simp only [if_true]
  exact Ev.now _
theorem bv_zeros (s : ByteArray) (n : Nat) : ∀ (p m : Nat), (∀ j, j < n → bt s ((p + j : Nat) : Int) = 48) → bv s (n + m) p 0 = bv s m (p + n) 0 := by
 induction n with
 | zero => intro p m _; rw [Nat.zero_add, Nat.add_zero]
 | succ n ih =>
  intro p m h
  have h0 := h 0 (by omega)
  rw [Nat.add_zero] at h0
  rw [show n + 1 + m = (n + m) + 1 by omega, bv, h0, show (2 * (0 : Int) + (48 - 48)) = 0 by omega, show p + (n + 1) = (p + 1) + n by omega]
  exact ih (p + 1) m (fun j hj => by rw [show p + 1 + j = p + (j + 1) by omega]; exact h (j + 1) (by omega))
theorem ueN_nonneg (s : ByteArray) (hr : RowR s) (p : Nat) (hp : p ≤ s.size) (h : UeOk s p) : 0 ≤ ueN s p := by
 have hle := zc_le s (s.size - p) p
 have hn : nz s p = zc s (s.size - p) p := rfl
 have h2 := h.2.1
 unfold ueE at h2
 have hz := bv_zeros s (nz s p) p (nz s p + 1) (fun j hj => zc_lt s (s.size - p) p j (by omega))
 rw [show nz s p + (nz s p + 1) = 2 * nz s p + 1 by omega] at hz
 have hb := hr.2 (p + nz s p) (by omega)
 have h48 : bt s ((p + nz s p : Nat) : Int) ≠ 48 := zc_end s (s.size - p) p (by omega)
 have h49 : bt s ((p + nz s p : Nat) : Int) = 49 := hb.resolve_left h48
 have hge := (bv_in s hr (nz s p) (p + nz s p + 1) (2 * 0 + (49 - 48)) (by omega) (by omega)).1
 have hp : (0 : Int) < 2 ^ nz s p := Int.pow_pos (by omega)
 unfold ueN
 rw [hz, bv, h49]
 omega
def openN (n : Int) : Int := if n % 2 = 1 then (n + 1) / 2 else -(n / 2)
theorem open_eq (n : Int) (h0 : 0 ≤ n) (h1 : n ≤ 1000000) : impl_OpenSe.f n = some (openN n, true) := by
 unfold impl_OpenSe.f openN
 rw [within_eq, Option.bind_some, if_pos (decide_eq_true ⟨h0, h1⟩), Int.tmod_eq_emod_of_nonneg h0]
 by_cases c : n % 2 = 1
 ·rw [if_pos c, if_pos c, wrap_id (x := n + 1) (by omega) (by omega), Int.tdiv_eq_ediv_of_nonneg (by omega), wrap_id (by omega) (by omega)]
 ·rw [if_neg c, if_neg c, wrap_id (x := -n) (by omega) (by omega), Int.neg_tdiv, Int.tdiv_eq_ediv_of_nonneg h0, wrap_id (by omega) (by omega)]
theorem se_ok (s : ByteArray) (hr : RowR s) (p : Nat) (hp : p ≤ s.size) (h : UeOk s p) : Ev (fun k => impl_scan_se.f k s (p : Int) false) (openN (ueN s p), s, (ueE s p : Int), false) := by
 unfold impl_scan_se.f
 refine Ev.bind (ue_ok s hr p hp h) ?_
 simp only [open_eq (ueN s p) (ueN_nonneg s hr p hp h) h.2.2, Option.bind_some, Bool.false_eq_true, if_false, Bool.not_true]
 exact Ev.now _
theorem se_end (s : ByteArray) (p q : Int) (b : Bool) (h : Ev (fun k => impl_scan_ue.f k s p b) (0, s, q, true)) : Ev (fun k => impl_scan_se.f k s p b) (0, s, q, true) := by
 unfold impl_scan_se.f
 refine Ev.bind h ?_
 simp only [open_eq 0 (by omega) (by omega), Option.bind_some, if_true]
 exact Ev.now _
/-- A round of the runs goes on: the gap at p, at place a, and the level behind it. -/
def RunOk (s : ByteArray) (n a p : Nat) : Prop := UeOk s p ∧ (a : Int) + ueN s p < (n : Int) ∧ UeOk s (ueE s p) ∧ openN (ueN s (ueE s p)) ≠ 0 ∧ -5000 ≤ openN (ueN s (ueE s p)) ∧ openN (ueN s (ueE s p)) ≤ 5000
instance (s : ByteArray) (n a p : Nat) : Decidable (RunOk s n a p) := by unfold RunOk; infer_instance
def runsR (s : ByteArray) (n : Nat) : Nat → Nat → Nat → List Int → Option (List Int × Nat)
 | 0, _, p, out => some (out, p)
 | c + 1, a, p, out => if RunOk s n a p then runsR s n c (a + (ueN s p).toNat + 1) (ueE s (ueE s p)) (out.set (a + (ueN s p).toNat) (openN (ueN s (ueE s p)))) else none
theorem runsR_in (s : ByteArray) (hr : RowR s) (n c : Nat) : ∀ (a p : Nat) (out : List Int) (o : List Int) (q : Nat), p ≤ s.size → out.length = n → runsR s n c a p out = some (o, q) → o.length = n ∧ q ≤ s.size := by
 induction c with
 | zero =>
  intro a p out o q hp hl h
  rw [runsR] at h
  injection h with h
  injection h with h1 h2
  subst h1 h2
  exact ⟨hl, hp⟩
 | succ c ih =>
  intro a p out o q hp hl h
  rw [runsR] at h
  by_cases ok : RunOk s n a p
  ·rw [if_pos ok] at h
   exact ih _ _ _ _ _ ok.2.2.1.2.1 (by simp; exact hl) h
  ·rw [if_neg ok] at h
   simp at h
theorem iruns_loop (s : ByteArray) (hr : RowR s) (n : Nat) (hn : n ≤ 64) (c : Nat) : c ≤ 2000000 → ∀ (a p : Nat) (out : List Int), out.length = n → a ≤ n → p ≤ s.size →
  (∀ o q, runsR s n c a p out = some (o, q) → Ev (fun k => impl_scan_runs.l0 k (n : Int) out (a : Int) (c : Int) s (p : Int) false) (o, s, (q : Int), false)) ∧
  (runsR s n c a p out = none → ∃ o q, o.length = n ∧ Ev (fun k => impl_scan_runs.l0 k (n : Int) out (a : Int) (c : Int) s (p : Int) false) (o, s, q, true)) := by
 induction c with
 | zero =>
  intro _ a p out hl ha hp
  refine ⟨?_, fun h => by rw [runsR] at h; simp at h⟩
  intro o q h
  rw [runsR] at h
  injection h with h
  injection h with h1 h2
  subst h1 h2
  refine Ev.step (f := fun k => impl_scan_runs.j1 k (n : Int) out (a : Int) ((0 : Nat) : Int) false s (p : Int) false) (fun k => by simp only [impl_scan_runs.l0]; rw [if_neg (by omega)]) ?_
  exact Ev.step (f := fun _ => some (out, s, (p : Int), false)) (fun k => by simp only [impl_scan_runs.j1, Bool.false_eq_true, if_false]) (Ev.now _)
 | succ c ih =>
  intro hc a p out hl ha hp
  have start : ∀ R, Ev (fun k => impl_scan_runs.j1 k (n : Int) out (a : Int) ((c + 1 : Nat) : Int) true s (p : Int) false) R → Ev (fun k => impl_scan_runs.l0 k (n : Int) out (a : Int) ((c + 1 : Nat) : Int) s (p : Int) false) R := by
   intro R h
   exact Ev.step (fun k => by simp only [impl_scan_runs.l0]; rw [if_pos (by omega)]; rfl) h
  rw [runsR]
  by_cases ok1 : UeOk s p
  ·have r0 := ueN_nonneg s hr p hp ok1
   have r1 := ok1.2.2
   have hE := ok1.2.1
   have hue := ue_ok s hr p hp ok1
   have w1 : wrap64 ((a : Int) + ueN s p) = ((a + (ueN s p).toNat : Nat) : Int) := by rw [wrap_id (by omega) (by omega)]; omega
   by_cases ok2 : UeOk s (ueE s p)
   ·have hse := se_ok s hr (ueE s p) hE ok2
    have hE2 := ok2.2.1
    by_cases c3 : ((a + (ueN s p).toNat : Nat) : Int) ≥ (n : Int)
    ·have hno : ¬ RunOk s n a p := fun h => by have := h.2.1; clear w1; omega
     rw [if_neg hno]
     refine ⟨fun o q h => by simp at h, fun _ => ⟨out, (ueE s (ueE s p) : Int), hl, start _ (Ev.step (fun k => by simp only [impl_scan_runs.j1, if_true]; rfl) (Ev.bind hue (Ev.bind hse ?_)))⟩⟩
     simp only [w1, c3, if_true]
     exact Ev.now _
    ·by_cases c4 : openN (ueN s (ueE s p)) = 0
     ·have hno : ¬ RunOk s n a p := fun h => h.2.2.2.1 c4
      rw [if_neg hno]
      refine ⟨fun o q h => by simp at h, fun _ => ⟨out, (ueE s (ueE s p) : Int), hl, start _ (Ev.step (fun k => by simp only [impl_scan_runs.j1, if_true]; rfl) (Ev.bind hue (Ev.bind hse ?_)))⟩⟩
      simp only [w1, c3, c4, if_true, if_false]
      exact Ev.now _
     ·by_cases c5 : -5000 ≤ openN (ueN s (ueE s p)) ∧ openN (ueN s (ueE s p)) ≤ 5000
      ·have hyes : RunOk s n a p := ⟨ok1, by clear w1; omega, ok2, c4, c5.1, c5.2⟩
       rw [if_pos hyes]
       have w2 : wrap64 (((a + (ueN s p).toNat : Nat) : Int) + 1) = ((a + (ueN s p).toNat + 1 : Nat) : Int) := by clear w1; rw [wrap_id (by omega) (by omega)]; omega
       have w3 : wrap64 (((c + 1 : Nat) : Int) - 1) = (c : Int) := by clear w1 w2; rw [wrap_id (by omega) (by omega)]; omega
       have g1 : (0 : Int) ≤ ((a + (ueN s p).toNat : Nat) : Int) := by clear w1 w2 w3; omega
       have g2 : ((a + (ueN s p).toNat : Nat) : Int) < (out.length : Int) := by clear w1 w2 w3; omega
       have g3 : (((a + (ueN s p).toNat : Nat) : Int)).toNat = a + (ueN s p).toNat := Int.toNat_natCast _
       have h' := ih (by omega) (a + (ueN s p).toNat + 1) (ueE s (ueE s p)) (out.set (a + (ueN s p).toNat) (openN (ueN s (ueE s p)))) (by simp; exact hl) (by clear w1 w2 w3; omega) hE2
       have go : ∀ R, Ev (fun k => impl_scan_runs.l0 k (n : Int) (out.set (a + (ueN s p).toNat) (openN (ueN s (ueE s p)))) ((a + (ueN s p).toNat + 1 : Nat) : Int) (c : Int) s (ueE s (ueE s p) : Int) false) R → Ev (fun k => impl_scan_runs.l0 k (n : Int) out (a : Int) ((c + 1 : Nat) : Int) s (p : Int) false) R := by
        intro R h
        refine start _ (Ev.step (fun k => by simp only [impl_scan_runs.j1, if_true]; rfl) (Ev.bind hue (Ev.bind hse ?_)))
        simp only [w1, c3, c4, if_false, within_eq, Option.bind_some, decide_eq_true c5, if_true, g1, g2, w2, w3, g3]
        exact h
       refine ⟨fun o q h => go _ (h'.1 o q h), fun h => ?_⟩
       obtain ⟨o, q, hlo, e⟩ := h'.2 h
       exact ⟨o, q, hlo, go _ e⟩
      ·have hno : ¬ RunOk s n a p := fun h => c5 ⟨h.2.2.2.2.1, h.2.2.2.2.2⟩
       rw [if_neg hno]
       refine ⟨fun o q h => by simp at h, fun _ => ⟨out, (ueE s (ueE s p) : Int), hl, start _ (Ev.step (fun k => by simp only [impl_scan_runs.j1, if_true]; rfl) (Ev.bind hue (Ev.bind hse ?_)))⟩⟩
       simp only [w1, c3, c4, if_false, within_eq, Option.bind_some, decide_eq_false c5, Bool.false_eq_true]
       exact Ev.now _
   ·have hno : ¬ RunOk s n a p := fun h => ok2 h.2.2.1
    rw [if_neg hno]
    obtain ⟨q, hq⟩ := ue_no s hr (ueE s p) hE ok2
    have hse := se_end s (ueE s p : Int) q false hq
    refine ⟨fun o q h => by simp at h, fun _ => ⟨out, q, hl, start _ (Ev.step (fun k => by simp only [impl_scan_runs.j1, if_true]; rfl) (Ev.bind hue (Ev.bind hse ?_)))⟩⟩
    simp only [if_true, ite_self]
    exact Ev.now _
  ·have hno : ¬ RunOk s n a p := fun h => ok1 h.1
   rw [if_neg hno]
   obtain ⟨q, hq⟩ := ue_no s hr p hp ok1
   have hse := se_end s q q true (uebad_ev s q)
   refine ⟨fun o q h => by simp at h, fun _ => ⟨out, q, hl, start _ (Ev.step (fun k => by simp only [impl_scan_runs.j1, if_true]; rfl) (Ev.bind hq (Ev.bind hse ?_)))⟩⟩
   simp only [if_true, ite_self]
   exact Ev.now _
def outR : Option (List Int × Nat) → List Int × Int × Bool
 | some (o, q) => (o, (q : Int), true)
 | none => ([], 0, false)
def runsAll (s : ByteArray) (p : Nat) (n : Nat) : List Int × Int × Bool := if UeOk s p then outR (runsR s n (ueN s p).toNat 0 (ueE s p) (List.replicate n 0)) else ([], 0, false)
theorem iruns_all (s : ByteArray) (hr : RowR s) (p n : Nat) (hp : p ≤ s.size) (hn : n ≤ 64) :
  ∃ o q b, o.length = n ∧ Ev (fun k => impl_scan_runs.f k s (p : Int) false (n : Int)) (o, s, q, b) ∧ (if b = true then (([] : List Int), (0 : Int), false) else (o, q, true)) = runsAll s p n := by
 have g0 : (0 : Int) ≤ (n : Int) := by omega
 have g1 : n ≤ 35184372088832 := by omega
 unfold impl_scan_runs.f
 simp only [g0, g1, if_true, Int.toNat_natCast]
 unfold runsAll
 by_cases ok : UeOk s p
 ·have h0 := ueN_nonneg s hr p hp ok
  have h1 := ok.2.2
  have hl := iruns_loop s hr n hn (ueN s p).toNat (by omega) 0 (ueE s p) (List.replicate n 0) (by simp) (by omega) ok.2.1
  have e : (((ueN s p).toNat : Nat) : Int) = ueN s p := Int.toNat_of_nonneg h0
  rw [e] at hl
  rw [if_pos ok]
  cases hv : runsR s n (ueN s p).toNat 0 (ueE s p) (List.replicate n 0) with
  | some v =>
   obtain ⟨o, q⟩ := v
   exact ⟨o, q, false, (runsR_in s hr n _ 0 _ _ o q ok.2.1 (by simp) hv).1, Ev.bind (ue_ok s hr p hp ok) (hl.1 o q hv), rfl⟩
  | none =>
   obtain ⟨o, q, hlo, h⟩ := hl.2 hv
   exact ⟨o, q, true, hlo, Ev.bind (ue_ok s hr p hp ok) h, rfl⟩
 ·obtain ⟨q, hq⟩ := ue_no s hr p hp ok
  rw [if_neg ok]
  refine ⟨List.replicate n 0, q, true, by simp, Ev.bind hq ?_, rfl⟩
  refine Ev.step (f := fun k => impl_scan_runs.j1 k (n : Int) (List.replicate n 0) 0 0 false s q true) (fun k => by simp only [impl_scan_runs.l0]; rw [if_neg (by omega)]) ?_
  exact Ev.step (f := fun _ => some (List.replicate n 0, s, q, true)) (fun k => by simp only [impl_scan_runs.j1, Bool.false_eq_true, if_false]) (Ev.now _)
def openB (s : ByteArray) (a : Int) : Bool := rowB s && decide (0 ≤ a ∧ a ≤ (s.size : Int))
theorem opened_ev (s : ByteArray) (a : Int) : Ev (fun k => impl_opened.f k s a) (s, a, !(openB s a)) := by
 unfold impl_opened.f openB
 refine Ev.bind (row_ev s) ?_
 cases rowB s with
 | true => simp only [if_true, within_eq, Option.bind_some, Bool.true_and]; exact Ev.now _
 | false => simp only [Bool.false_eq_true, if_false, Bool.false_and, Bool.not_false]; exact Ev.now _
theorem openB_good {s : ByteArray} {a : Int} (h : openB s a = true) : RowR s ∧ 0 ≤ a ∧ a ≤ (s.size : Int) := by
 unfold openB at h
 rw [Bool.and_eq_true, decide_eq_true_eq] at h
 exact ⟨rowB_at h.1, h.2⟩
theorem iruns_bad (s : ByteArray) (a : Int) (n : Nat) (hn : n ≤ 64) : Ev (fun k => impl_scan_runs.f k s a true (n : Int)) (List.replicate n 0, s, a, true) := by
 have g0 : (0 : Int) ≤ (n : Int) := by omega
 have g1 : n ≤ 35184372088832 := by omega
 unfold impl_scan_runs.f
 simp only [g0, g1, if_true, Int.toNat_natCast]
 refine Ev.bind (uebad_ev s a) ?_
 refine Ev.step (f := fun k => impl_scan_runs.j1 k (n : Int) (List.replicate n 0) 0 0 false s a true) (fun k => by simp only [impl_scan_runs.l0]; rw [if_neg (by omega)]) ?_
 exact Ev.step (f := fun _ => some (List.replicate n 0, s, a, true)) (fun k => by simp only [impl_scan_runs.j1, Bool.false_eq_true, if_false]) (Ev.now _)
def condB (q : Int) (l e : Bool) : Bool := decide (0 ≤ q ∧ q ≤ 40) && !(l && e)
theorem cond_val (a : Bool) (q : Int) (l e : Bool) : impl_CondOk.f a q l e = some (condB q l e) := by
 unfold impl_CondOk.f condB
 rw [within_eq, Option.bind_some]
 by_cases c : 0 ≤ q ∧ q ≤ 40
 ·simp only [c, and_self, decide_true, if_true, Bool.true_and]
  cases l <;> cases e <;> rfl
 ·simp only [c, decide_false, Bool.false_eq_true, if_false, Bool.false_and]
/-- One row of runs of n numbers, from p on. -/
def runsO (s : ByteArray) (n p : Nat) : Option (List Int × Nat) := if UeOk s p then runsR s n (ueN s p).toNat 0 (ueE s p) (List.replicate n 0) else none
theorem runsAll_eq (s : ByteArray) (n p : Nat) : runsAll s p n = outR (runsO s n p) := by
 unfold runsAll runsO
 by_cases c : UeOk s p
 ·rw [if_pos c, if_pos c]
 ·rw [if_neg c, if_neg c]; rfl
theorem runsO_in {s : ByteArray} (hr : RowR s) {n p : Nat} {o : List Int} {q : Nat} (hp : p ≤ s.size) (h : runsO s n p = some (o, q)) : o.length = n ∧ q ≤ s.size := by
 unfold runsO at h
 by_cases c : UeOk s p
 ·rw [if_pos c] at h
  exact runsR_in s hr n _ 0 _ _ o q c.2.1 (by simp) h
 ·rw [if_neg c] at h; cases h
/-- d rows of sixteen, one behind the other, behind what out has. -/
def fourR (s : ByteArray) : Nat → Nat → List Int → Option (List Int × Nat)
 | 0, p, out => some (out, p)
 | d + 1, p, out => (runsO s 16 p).bind fun v => fourR s d v.2 (out ++ v.1)
def levelsR (s : ByteArray) (large ex : Bool) (p : Nat) : Option (List Int × Nat) := if large = true ∨ ex = true then runsO s 64 p else fourR s 4 p []
theorem iruns_good {s : ByteArray} (hr : RowR s) {p n : Nat} (hp : p ≤ s.size) (hn : n ≤ 64) {o : List Int} {q : Nat} (h : runsO s n p = some (o, q)) : Ev (fun k => impl_scan_runs.f k s (p : Int) false (n : Int)) (o, s, (q : Int), false) := by
 obtain ⟨o', q', b, hlo, e, hv⟩ := iruns_all s hr p n hp hn
 rw [runsAll_eq, h] at hv
 cases b with
 | true => simp [outR] at hv
 | false =>
  simp only [Bool.false_eq_true, if_false, outR, Prod.mk.injEq] at hv
  obtain ⟨rfl, rfl, _⟩ := hv
  exact e
theorem iruns_none {s : ByteArray} (hr : RowR s) {p n : Nat} (hp : p ≤ s.size) (hn : n ≤ 64) (h : runsO s n p = none) : ∃ o q, o.length = n ∧ Ev (fun k => impl_scan_runs.f k s (p : Int) false (n : Int)) (o, s, q, true) := by
 obtain ⟨o', q', b, hlo, e, hv⟩ := iruns_all s hr p n hp hn
 rw [runsAll_eq, h] at hv
 cases b with
 | true => exact ⟨o', q', hlo, e⟩
 | false => simp [outR] at hv
/-- The signs B stand in s from p on. -/
def At (s : ByteArray) : Nat → List Int → Prop
 | p, [] => p ≤ s.size
 | p, x :: B => bt s (p : Int) = x ∧ At s (p + 1) B
theorem at_le {s : ByteArray} (B : List Int) : ∀ p, At s p B → p + B.length ≤ s.size := by
 induction B with
 | nil => intro p h; rw [List.length_nil]; exact h
 | cons x B ih => intro p h; have := ih (p + 1) h.2; rw [List.length_cons]; omega
theorem at_append {s : ByteArray} (A B : List Int) : ∀ p, At s p (A ++ B) → At s p A ∧ At s (p + A.length) B := by
 induction A with
 | nil =>
  intro p h
  rw [List.nil_append] at h
  have := at_le B p h
  exact ⟨show p ≤ s.size by omega, by rw [List.length_nil, Nat.add_zero]; exact h⟩
 | cons x A ih =>
  intro p h
  rw [List.cons_append] at h
  have h2 := ih (p + 1) h.2
  refine ⟨⟨h.1, h2.1⟩, ?_⟩
  rw [List.length_cons, show p + (A.length + 1) = p + 1 + A.length by omega]
  exact h2.2
theorem at_str {L : List Int} (hL : ∀ y ∈ L, y = 48 ∨ y = 49) (B : List Int) : ∀ A, L = A ++ B → At (strOfNums L) A.length B := by
 induction B with
 | nil => intro A h; show A.length ≤ (strOfNums L).size; rw [strOfNums_size, h]; simp
 | cons x B ih =>
  intro A h
  refine ⟨?_, ?_⟩
  ·rw [← rd_bytesOf, bytes_row hL, h]
   unfold rd
   simp
  ·have := ih (A ++ [x]) (by rw [h]; simp)
   rw [List.length_append] at this
   exact this
theorem bv_last (s : ByteArray) (n : Nat) : ∀ (p : Nat) (a : Int), bv s (n + 1) p a = 2 * bv s n p a + (bt s ((p + n : Nat) : Int) - 48) := by
 induction n with
 | zero => intro p a; rw [bv, bv, bv, Nat.add_zero]
 | succ n ih => intro p a; rw [bv, ih (p + 1), bv, show p + 1 + n = p + (n + 1) by omega]
theorem bv_fix {s : ByteArray} (w : Nat) : ∀ (x p : Nat), At s p (fixL x w) → bv s w p 0 = ((x % 2 ^ w : Nat) : Int) := by
 induction w with
 | zero => intro x p _; rw [bv, Nat.pow_zero, Nat.mod_one]; rfl
 | succ w ih =>
  intro x p h
  rw [fixL] at h
  obtain ⟨h1, h2⟩ := at_append _ _ p h
  rw [fixL_len] at h2
  rw [bv_last, ih _ p h1, h2.1, Nat.pow_succ, Nat.mul_comm (2 ^ w) 2, Nat.mod_mul]
  omega
theorem figs_pow (w : Nat) : ∀ x, x < 2 ^ w → w ≤ 63 → x < 2 ^ figs x := by
 induction w with
 | zero =>
  intro x h _; have : x = 0 := by simpa using h
  subst this; rw [figs_zero]; decide
 | succ w ih =>
  intro x h hw
  by_cases c : x = 0
  ·subst c; rw [figs_zero]; decide
  ·have hlt : x < 2 ^ 64 := Nat.lt_of_lt_of_le h (Nat.pow_le_pow_right (by omega) (by omega))
   rw [figs_half (by omega) hlt, Nat.pow_succ]
   rw [Nat.pow_succ] at h
   have := ih (x / 2) (by omega) (by omega)
   omega
theorem fixL_head (w : Nat) : ∀ x, 0 < x → x < 2 ^ w → w ≤ 63 → ∃ R, fixL x (figs x) = 49 :: R := by
 induction w with
 | zero =>
  intro x h0 h _; have : x = 0 := by simpa using h
  omega
 | succ w ih =>
  intro x h0 h hw
  have hlt : x < 2 ^ 64 := Nat.lt_of_lt_of_le h (Nat.pow_le_pow_right (by omega) (by omega))
  rw [figs_half h0 hlt, fixL]
  rw [Nat.pow_succ] at h
  by_cases c : x / 2 = 0
  ·have : x = 1 := by omega
   subst this
   exact ⟨[], rfl⟩
  ·obtain ⟨R, e⟩ := ih (x / 2) (by omega) (by omega) (by omega)
   exact ⟨R ++ [48 + ((x % 2 : Nat) : Int)], by rw [e]; rfl⟩
theorem zc_rep {s : ByteArray} (z : Nat) : ∀ (n p : Nat) (R : List Int), At s p (List.replicate z 48 ++ 49 :: R) → z < n → zc s n p = z := by
 induction z with
 | zero =>
  intro n p R h hn
  obtain ⟨m, rfl⟩ : ∃ m, n = m + 1 := ⟨n - 1, by omega⟩
  have e : bt s (p : Int) = 49 := h.1
  rw [zc, if_neg (by omega)]
 | succ z ih =>
  intro n p R h hn
  obtain ⟨m, rfl⟩ : ∃ m, n = m + 1 := ⟨n - 1, by omega⟩
  rw [List.replicate_succ, List.cons_append] at h
  have e : bt s (p : Int) = 48 := h.1
  rw [zc, if_pos e, ih m (p + 1) R h.2 (by omega)]
theorem figs_small {x w : Nat} (h : x < 2 ^ w) (hw : w ≤ 64) : figs x ≤ w := by
 unfold figs
 rw [figsF_lt w x h 64 hw]
 exact figsF_le w x
/-- What ueL writes is read back. -/
theorem ue_back {s : ByteArray} {p n : Nat} (hn : n ≤ 1000000) (h : At s p (ueL n)) : UeOk s p ∧ ueN s p = (n : Int) ∧ ueE s p = p + (ueL n).length := by
 have hlt : n + 1 < 2 ^ 20 := by omega
 have hf := figs_small hlt (by omega)
 have h1 : 0 < figs (n + 1) := figs_pos (by omega) (by omega)
 have hp := figs_pow 20 (n + 1) hlt (by omega)
 have hle := at_le _ p h
 have hlen : (ueL n).length = 2 * figs (n + 1) - 1 := by unfold ueL; rw [fixL_len]
 have hv : bv s (2 * figs (n + 1) - 1) p 0 = ((n + 1 : Nat) : Int) := by
  rw [bv_fix _ (n + 1) p (by unfold ueL at h; exact h), Nat.mod_eq_of_lt]
  exact Nat.lt_of_lt_of_le hp (Nat.pow_le_pow_right (by omega) (by omega))
 have hz : nz s p = figs (n + 1) - 1 := by
  rw [ueL_eq n (by omega)] at h
  obtain ⟨R, e⟩ := fixL_head 20 (n + 1) (by omega) hlt (by omega)
  rw [e] at h
  unfold nz
  exact zc_rep _ _ p R h (by omega)
 have hN : ueN s p = (n : Int) := by
  unfold ueN
  rw [hz, show 2 * (figs (n + 1) - 1) + 1 = 2 * figs (n + 1) - 1 by omega, hv]
  omega
 have hE : ueE s p = p + (ueL n).length := by unfold ueE; rw [hz, hlen]; omega
 exact ⟨⟨by omega, by omega, by rw [hN]; omega⟩, hN, hE⟩
theorem open_fold {x : Int} (h : -5000 ≤ x ∧ x ≤ 5000) : openN ((foldN x : Nat) : Int) = x := by
 unfold openN foldN
 by_cases c : x > 0
 ·rw [if_pos c]
  have e : (((2 * x - 1).toNat : Nat) : Int) = 2 * x - 1 := Int.toNat_of_nonneg (by omega)
  rw [e, if_pos (by omega)]
  omega
 ·rw [if_neg c]
  have e : (((-2 * x).toNat : Nat) : Int) = -2 * x := Int.toNat_of_nonneg (by omega)
  rw [e, if_neg (by omega)]
  omega
theorem set_done (d : List Int) (m : Nat) (x : Int) : (d ++ List.replicate (m + 1) 0).set d.length x = (d ++ [x]) ++ List.replicate m 0 := by
 rw [List.set_append_right _ _ (Nat.le_refl _), Nat.sub_self, List.replicate_succ, List.set_cons_zero]
 simp
theorem runs_back {s : ByteArray} (n : Nat) (hn : n ≤ 64) (l : List Int) (hb : ∀ x ∈ l, -5000 ≤ x ∧ x ≤ 5000) : ∀ (d : List Int) (a z p : Nat), a + z = d.length → d.length + l.length = n → At s p (rtL z l) →
  runsR s n (cntN l) a p (d ++ List.replicate l.length 0) = some (d ++ l, p + (rtL z l).length) := by
 induction l with
 | nil =>
  intro d a z p _ _ _
  simp [cntN, rtL, runsR]
 | cons x l ih =>
  intro d a z p ha hd h
  rw [List.length_cons] at hd
  have hb' : ∀ y ∈ l, -5000 ≤ y ∧ y ≤ 5000 := fun y hy => hb y (List.mem_cons_of_mem _ hy)
  by_cases c : x = 0
  ·subst c
   have e : rtL z (0 :: l) = rtL (z + 1) l := by rw [rtL, if_pos rfl]
   rw [e] at h ⊢
   have ec : cntN (0 :: l) = cntN l := by rw [cntN_cons]; simp [isnz]
   have hi := ih hb' (d ++ [0]) a (z + 1) p (by rw [List.length_append]; simp; omega) (by rw [List.length_append]; simp; omega) h
   rw [ec, List.length_cons, List.replicate_succ]
   rw [List.append_assoc, List.append_assoc] at hi
   exact hi
  ·have e : rtL z (x :: l) = ueL z ++ (ueL (foldN x) ++ rtL 0 l) := by rw [rtL, if_neg c]
   rw [e] at h ⊢
   obtain ⟨h1, h2⟩ := at_append _ _ p h
   obtain ⟨h3, h4⟩ := at_append _ _ _ h2
   obtain ⟨o1, v1, e1⟩ := ue_back (by omega) h1
   have hx := hb x (List.mem_cons_self ..)
   have hfl : foldN x ≤ 1000000 := fold_lt (by omega) (by omega)
   rw [← e1] at h3 h4
   obtain ⟨o2, v2, e2⟩ := ue_back hfl h3
   have ho := open_fold hx
   have ok : RunOk s n a p := ⟨o1, by rw [v1]; omega, o2, by rw [v2, ho]; exact c, by rw [v2, ho]; exact hx.1, by rw [v2, ho]; exact hx.2⟩
   have ec : cntN (x :: l) = cntN l + 1 := by rw [cntN_cons]; unfold isnz; rw [if_neg c]; omega
   rw [ec, runsR, if_pos ok, v1, v2, ho, e2, Int.toNat_natCast, ha, List.length_cons, set_done]
   rw [show ueE s p + (ueL (foldN x)).length = ueE s p + (ueL (foldN x)).length from rfl]
   have hi := ih hb' (d ++ [x]) (d.length + 1) 0 (ueE s p + (ueL (foldN x)).length) (by rw [List.length_append]; simp) (by rw [List.length_append]; simp; omega) h4
   rw [hi, e1]
   simp only [List.append_assoc, List.length_append, Option.some.injEq, Prod.mk.injEq]
   exact ⟨rfl, by omega⟩
/-- What runsL writes is read back. -/
theorem runsO_back {s : ByteArray} {p : Nat} {l : List Int} (hl : l.length ≤ 64) (hb : ∀ x ∈ l, -5000 ≤ x ∧ x ≤ 5000) (h : At s p (runsL l)) : runsO s l.length p = some (l, p + (runsL l).length) := by
 unfold runsL at h
 obtain ⟨h1, h2⟩ := at_append _ _ p h
 have hc := cntN_le l
 obtain ⟨o1, v1, e1⟩ := ue_back (by omega) h1
 rw [← e1] at h2
 unfold runsO
 have hi := runs_back l.length hl l hb [] 0 0 (ueE s p) rfl (by simp) h2
 rw [if_pos o1, v1, Int.toNat_natCast]
 rw [List.nil_append, List.nil_append] at hi
 rw [hi, e1]
 unfold runsL
 rw [List.length_append]
 simp only [Option.some.injEq, Prod.mk.injEq, true_and]
 omega
theorem signB_of {s : ByteArray} (n : Nat) : ∀ i, (∀ j, i ≤ j → j < i + n → bt s (j : Int) = 48 ∨ bt s (j : Int) = 49) → signB s n i = true := by
 induction n with
 | zero => intro i _; rfl
 | succ n ih =>
  intro i h
  rw [signB, ih (i + 1) (fun j h1 h2 => h j (by omega) (by omega)), Bool.and_true]
  rcases h i (by omega) (by omega) with e | e
  ·rw [decide_eq_true e]; rfl
  ·rw [decide_eq_true e, Bool.or_true]
theorem rowB_str {L : List Int} (hL : ∀ y ∈ L, y = 48 ∨ y = 49) (hl : L.length ≤ 400000) : rowB (strOfNums L) = true := by
 unfold rowB
 rw [strOfNums_size, decide_eq_true hl, Bool.true_and]
 refine signB_of _ _ fun j _ h => ?_
 rw [← rd_bytesOf, bytes_row hL]
 unfold rd
 rw [Int.toNat_natCast, List.getD_eq_getElem?_getD, List.getElem?_eq_getElem (by omega)]
 exact hL _ (List.getElem_mem _)
theorem rtL_mem (l : List Int) : ∀ z, ∀ y ∈ rtL z l, y = 48 ∨ y = 49 := by
 induction l with
 | nil => intro z y hy; simp [rtL] at hy
 | cons x l ih =>
  intro z y hy
  rw [rtL] at hy
  by_cases c : x = 0
  ·rw [if_pos c] at hy; exact ih _ y hy
  ·rw [if_neg c] at hy
   rcases List.mem_append.1 hy with h | h
   ·exact ueL_mem _ y h
   ·rcases List.mem_append.1 h with h | h
    ·exact ueL_mem _ y h
    ·exact ih _ y h
theorem runsL_mem (l : List Int) : ∀ y ∈ runsL l, y = 48 ∨ y = 49 := by
 intro y hy
 unfold runsL at hy
 rcases List.mem_append.1 hy with h | h
 ·exact ueL_mem _ y h
 ·exact rtL_mem l 0 y h
theorem len_decs (l : List Int) (n : Nat) (m : Int) (h : m = (n : Int)) : decide ((l.length : Int) = m) = decide (l.length = n) := by rw [decide_eq_decide]; omega
def levB (l : List Int) : Bool := decide (l.length = 64) && allB (-5000) 5000 l
theorem levels_ev (l : List Int) (hl : l.length ≤ 17592186043904) : Ev (fun k => impl_areLevels.f k l) (levB l) := by
 unfold impl_areLevels.f levB
 have h := areIn_ev l 64 (-5000) 5000 hl
 rw [len_decs l 64 64 rfl] at h
 exact Ev.bind h (Ev.now _)
/-- The sixteen levels of quarter i. -/
def qtr (l : List Int) (i : Nat) : List Int := (l.take (16 * i + 16)).drop (16 * i)
theorem qtr_len {l : List Int} (h : l.length = 64) (i : Nat) (hi : i < 4) : (qtr l i).length = 16 := by
 unfold qtr; rw [List.length_drop, List.length_take]; omega
theorem allB_sub {lo hi : Int} {l m : List Int} (h : allB lo hi l = true) (hs : ∀ x ∈ m, x ∈ l) : allB lo hi m = true := allB_iff.2 fun x hx => allB_iff.1 h x (hs x hx)
theorem qtr_all {l : List Int} {lo hi : Int} (h : allB lo hi l = true) (i : Nat) : allB lo hi (qtr l i) = true :=
 allB_sub h fun _ hx => List.mem_of_mem_take (List.mem_of_mem_drop hx)
def qrows (l : List Int) : Nat → List Int
 | 0 => []
 | n + 1 => qrows l n ++ runsL (qtr l n)
def lrL (l : List Int) (large exact_ : Bool) : List Int := if (large || exact_) = true then runsL l else qrows l 4
theorem runsL_len (l : List Int) : (runsL l).length ≤ 127 + 254 * l.length := by
 unfold runsL
 have h1 := ueL_len (cntN l)
 have h2 := rtL_len l 0
 rw [List.length_append]; omega
theorem qrows_len {l : List Int} (h : l.length = 64) (n : Nat) (hn : n ≤ 4) : (qrows l n).length ≤ 5000 * n := by
 induction n with
 | zero => simp [qrows]
 | succ n ih =>
  have h1 := ih (by omega)
  have h2 := runsL_len (qtr l n)
  rw [qtr_len h n (by omega)] at h2
  simp only [qrows, List.length_append]; omega
theorem lr_loop (l : List Int) (hl : l.length = 64) (hb : allB (-5000) 5000 l = true) : ∀ i : Nat, i ≤ 4 → Ev (fun k => impl_levelsRow.l0 k l (qrows l i) (i : Int)) (qrows l 4) := by
 refine down 4 ?_ ?_
 ·refine Ev.step (f := fun _ => some (qrows l 4)) (fun k => ?_) (Ev.now _)
  simp only [impl_levelsRow.l0]
  rw [if_neg (by omega)]
 ·intro i hi h
  have hq := runs_ev (qtr l i) (by rw [qtr_len hl i hi]; omega) (qtr_all hb i)
  have l1 := qrows_len hl i (by omega)
  have l2 := runsL_len (qtr l i)
  rw [qtr_len hl i hi] at l2
  refine Ev.step (f := fun k => (impl_runs.f k (qtr l i)).bind fun t => (if (qrows l i).length + t.length < 140737488355328 then (impl_levelsRow.l0 k l (qrows l i ++ t) ((i + 1 : Nat) : Int)) else (none))) (fun k => ?_) (Ev.bind hq ?_)
  ·simp only [impl_levelsRow.l0]
   rw [if_pos (by omega), wrap_id (x := 16 * (i : Int)) (by omega) (by omega), if_pos (by omega), wrap_id (x := 16 * (i : Int) + 16) (by omega) (by omega), if_pos (by omega), if_pos (by omega), wrap_id (x := (i : Int) + 1) (by omega) (by omega), cast1, show (16 * (i : Int) + 16).toNat = 16 * i + 16 by omega, show (16 * (i : Int)).toNat = 16 * i by omega]
   rfl
  ·refine Ev.congr (fun k => ?_) h
   rw [if_pos (by omega)]; rfl
theorem lr_ev (l : List Int) (a : Bool) (q : Int) (large ex : Bool) (hl : l.length = 64) (hb : allB (-5000) 5000 l = true) : Ev (fun k => impl_levelsRow.f k l a q large ex) (lrL l large ex) := by
 unfold impl_levelsRow.f lrL
 have h1 : Ev (fun k => impl_levelsRow.j0 k l true) (runsL l) := Ev.step (fun k => by simp only [impl_levelsRow.j0, if_true] <;> rfl) (Ev.bind (runs_ev l (by omega) hb) (Ev.now _))
 have h2 : Ev (fun k => impl_levelsRow.j0 k l false) (qrows l 4) := Ev.step (fun k => by simp only [impl_levelsRow.j0, Bool.false_eq_true, if_false]; rfl) (lr_loop l hl hb 0 (by omega))
 cases large <;> cases ex
 ·simpa using h2
 ·simpa using h1
 ·simpa using h1
 ·simpa using h1
def lrv (l : List Int) (q : Int) (large ex : Bool) : ByteArray × Bool := if (levB l && condB q large ex) = true then (strOfNums (lrL l large ex), true) else (⟨#[]⟩, false)
theorem levB_iff {l : List Int} : levB l = true ↔ l.length = 64 ∧ allB (-5000) 5000 l = true := by unfold levB; rw [Bool.and_eq_true, decide_eq_true_eq]
theorem levelsrow_ev (l : List Int) (a : Bool) (q : Int) (large ex : Bool) (hl : l.length ≤ 17592186043904) : Ev (fun k => impl_LevelsRow.f k l a q large ex) (lrv l q large ex) := by
 unfold impl_LevelsRow.f lrv
 refine Ev.bind (levels_ev l hl) ?_
 by_cases c : levB l = true
 ·simp only [c, if_true, Bool.true_and, cond_val, Option.bind_some]
  by_cases c2 : condB q large ex = true
  ·simp only [c2, if_true]
   exact Ev.bind (lr_ev l a q large ex (levB_iff.1 c).1 (levB_iff.1 c).2) (Ev.now _)
  ·simp only [c2, if_false]; exact Ev.now _
 ·simp only [c, if_false, Bool.and_eq_true, false_and]; exact Ev.now _
def qt (l : List Int) : Nat → Nat → List Int
 | _, 0 => []
 | i, d + 1 => runsL (qtr l i) ++ qt l (i + 1) d
theorem qrows_qt (l : List Int) : qrows l 4 = qt l 0 4 := by
 simp only [qrows, qt, List.nil_append, List.append_nil, List.append_assoc]
theorem take_qtr (l : List Int) (i : Nat) : l.take (16 * i) ++ qtr l i = l.take (16 * (i + 1)) := by
 unfold qtr
 have e : l.take (16 * i) = (l.take (16 * i + 16)).take (16 * i) := by rw [List.take_take, Nat.min_eq_left (by omega)]
 rw [e, List.take_append_drop, show 16 * (i + 1) = 16 * i + 16 by omega]
theorem qtr_in {l : List Int} (hb : ∀ x ∈ l, -5000 ≤ x ∧ x ≤ 5000) (i : Nat) : ∀ x ∈ qtr l i, -5000 ≤ x ∧ x ≤ 5000 := fun x hx => hb x (List.mem_of_mem_take (List.mem_of_mem_drop hx))
theorem four_back {s : ByteArray} {l : List Int} (hl : l.length = 64) (hb : ∀ x ∈ l, -5000 ≤ x ∧ x ≤ 5000) (d : Nat) : ∀ (i p : Nat), i + d = 4 → At s p (qt l i d) → fourR s d p (l.take (16 * i)) = some (l, p + (qt l i d).length) := by
 induction d with
 | zero =>
  intro i p hi _
  rw [fourR, qt, List.length_nil, Nat.add_zero, List.take_of_length_le (by omega)]
 | succ d ih =>
  intro i p hi h
  rw [qt] at h ⊢
  obtain ⟨h1, h2⟩ := at_append _ _ p h
  have hq := qtr_len hl i (by omega)
  have e := runsO_back (by omega) (qtr_in hb i) h1
  rw [hq] at e
  rw [fourR, e, Option.bind_some, take_qtr, ih (i + 1) _ (by omega) h2, List.length_append, Nat.add_assoc]
theorem levels_back {s : ByteArray} {p : Nat} {l : List Int} (large ex : Bool) (hl : l.length = 64) (hb : ∀ x ∈ l, -5000 ≤ x ∧ x ≤ 5000) (h : At s p (lrL l large ex)) : levelsR s large ex p = some (l, p + (lrL l large ex).length) := by
 unfold levelsR
 unfold lrL at h ⊢
 by_cases c : large = true ∨ ex = true
 ·have c' : (large || ex) = true := by rcases c with c | c <;> rw [c] <;> simp
  rw [if_pos c'] at h ⊢
  rw [if_pos c]
  have e := runsO_back (by omega) hb h
  rw [hl] at e
  exact e
 ·have c' : ¬ (large || ex) = true := by
   intro h'
   rw [Bool.or_eq_true] at h'
   exact c h'
  rw [if_neg c'] at h ⊢
  rw [if_neg c]
  rw [qrows_qt] at h ⊢
  have e := four_back hl hb 4 0 p (by omega) h
  rw [Nat.mul_zero, List.take_zero] at e
  exact e
theorem lrL_mem (l : List Int) (large ex : Bool) : ∀ y ∈ lrL l large ex, y = 48 ∨ y = 49 := by
 intro y hy
 unfold lrL at hy
 split at hy
 ·exact runsL_mem _ y hy
 ·simp only [qrows, List.nil_append] at hy
  rcases List.mem_append.1 hy with h | h
  ·rcases List.mem_append.1 h with h | h
   ·rcases List.mem_append.1 h with h | h
    ·exact runsL_mem _ y h
    ·exact runsL_mem _ y h
   ·exact runsL_mem _ y h
  ·exact runsL_mem _ y h
theorem ilev_bad (s : ByteArray) (d : Nat) : ∀ (i : Nat) (out : List Int) (a : Int), i + d = 4 → out.length ≤ 16 * i → ∃ o, Ev (fun k => impl_scan_levels.l0 k out (i : Int) s a true) (o, s, a, true) := by
 induction d with
 | zero =>
  intro i out a hi hl
  refine ⟨out, Ev.step (f := fun _ => some (out, s, a, true)) (fun k => ?_) (Ev.now _)⟩
  simp only [impl_scan_levels.l0]
  rw [if_neg (by omega)]
 | succ d ih =>
  intro i out a hi hl
  obtain ⟨o, h⟩ := ih (i + 1) (out ++ List.replicate 16 0) a (by omega) (by rw [List.length_append, List.length_replicate]; omega)
  refine ⟨o, Ev.step (fun k => by simp only [impl_scan_levels.l0]; rw [if_pos (by omega)]) (Ev.bind (show Ev (fun k => impl_scan_runs.f k s a true 16) (List.replicate 16 0, s, a, true) from iruns_bad s a 16 (by omega)) ?_)⟩
  have e2 : wrap64 ((i : Int) + 1) = ((i + 1 : Nat) : Int) := by rw [wrap_id (by omega) (by omega)]; omega
  have g : out.length + (List.replicate 16 (0 : Int)).length < 17592186044416 := by rw [List.length_replicate]; omega
  simp only [e2, g, if_true]
  exact h
theorem ilev_loop (s : ByteArray) (hr : RowR s) (d : Nat) : ∀ (i p : Nat) (out : List Int), i + d = 4 → out.length ≤ 16 * i → p ≤ s.size →
  (∀ o q, fourR s d p out = some (o, q) → Ev (fun k => impl_scan_levels.l0 k out (i : Int) s (p : Int) false) (o, s, (q : Int), false)) ∧
  (fourR s d p out = none → ∃ o q, Ev (fun k => impl_scan_levels.l0 k out (i : Int) s (p : Int) false) (o, s, q, true)) := by
 induction d with
 | zero =>
  intro i p out hi hl hp
  rw [fourR]
  refine ⟨fun o q h => ?_, fun h => by cases h⟩
  cases h
  refine Ev.step (f := fun _ => some (out, s, (p : Int), false)) (fun k => ?_) (Ev.now _)
  simp only [impl_scan_levels.l0]
  rw [if_neg (by omega)]
 | succ d ih =>
  intro i p out hi hl hp
  rw [fourR]
  have e2 : wrap64 ((i : Int) + 1) = ((i + 1 : Nat) : Int) := by rw [wrap_id (by omega) (by omega)]; omega
  cases hv : runsO s 16 p with
  | none =>
   refine ⟨fun o q h => (by cases h), fun _ => ?_⟩
   obtain ⟨o1, q1, hl1, h1'⟩ := iruns_none (n := 16) hr hp (by omega) hv
   have h1 : Ev (fun k => impl_scan_runs.f k s (p : Int) false 16) (o1, s, q1, true) := h1'
   obtain ⟨o, h2⟩ := ilev_bad s d (i + 1) (out ++ o1) q1 (by omega) (by rw [List.length_append]; omega)
   have g : out.length + o1.length < 17592186044416 := by omega
   refine ⟨o, q1, Ev.step (fun k => by simp only [impl_scan_levels.l0]; rw [if_pos (by omega)]) (Ev.bind h1 ?_)⟩
   simp only [e2, g, if_true]
   exact h2
  | some v =>
   obtain ⟨o1, q1⟩ := v
   have h1 : Ev (fun k => impl_scan_runs.f k s (p : Int) false 16) (o1, s, (q1 : Int), false) := iruns_good (n := 16) hr hp (by omega) hv
   have hi1 := runsO_in hr hp hv
   have hn := ih (i + 1) q1 (out ++ o1) (by omega) (by rw [List.length_append]; omega) hi1.2
   have g : out.length + o1.length < 17592186044416 := by omega
   refine ⟨fun o q h => ?_, fun h => ?_⟩
   ·refine Ev.step (fun k => by simp only [impl_scan_levels.l0]; rw [if_pos (by omega)]) (Ev.bind h1 ?_)
    simp only [e2, g, if_true]
    exact hn.1 o q h
   ·obtain ⟨o, q, h2⟩ := hn.2 h
    refine ⟨o, q, Ev.step (fun k => by simp only [impl_scan_levels.l0]; rw [if_pos (by omega)]) (Ev.bind h1 ?_)⟩
    simp only [e2, g, if_true]
    exact h2
/-- What levels answers, of a state that is not bad. -/
theorem ilevels_ev (s : ByteArray) (hr : RowR s) (c : Bool) (q : Int) (large ex : Bool) (p : Nat) (hp : p ≤ s.size) :
  ∃ o r b, Ev (fun k => impl_scan_levels.f k s (p : Int) false c q large ex) (o, s, r, b) ∧ (if b = true then (([] : List Int), (0 : Int), false) else (o, r, true)) = outR (levelsR s large ex p) := by
 have h64 : ∃ o r b, Ev (fun k => impl_scan_levels.j0 k true s (p : Int) false) (o, s, r, b) ∧ (if b = true then (([] : List Int), (0 : Int), false) else (o, r, true)) = outR (runsO s 64 p) := by
  obtain ⟨o, r, b, _, e, hv⟩ := iruns_all s hr p 64 hp (by omega)
  rw [runsAll_eq] at hv
  exact ⟨o, r, b, Ev.step (fun k => by simp only [impl_scan_levels.j0, if_true]; rfl) (Ev.bind e (Ev.now _)), hv⟩
 have h16 : ∃ o r b, Ev (fun k => impl_scan_levels.j0 k false s (p : Int) false) (o, s, r, b) ∧ (if b = true then (([] : List Int), (0 : Int), false) else (o, r, true)) = outR (fourR s 4 p []) := by
  have hl := ilev_loop s hr 4 0 p [] (by omega) (by simp) hp
  cases hv : fourR s 4 p [] with
  | none =>
   obtain ⟨o, r, e⟩ := hl.2 hv
   exact ⟨o, r, true, Ev.step (fun k => by simp only [impl_scan_levels.j0, Bool.false_eq_true, if_false]; rfl) e, rfl⟩
  | some v =>
   obtain ⟨o, r⟩ := v
   exact ⟨o, r, false, Ev.step (fun k => by simp only [impl_scan_levels.j0, Bool.false_eq_true, if_false]; rfl) (hl.1 o r hv), rfl⟩
 unfold impl_scan_levels.f levelsR
 cases large <;> cases ex <;> simp only [if_true, Bool.false_eq_true, if_false, or_self, or_true, true_or] <;> assumption
theorem ilevels_badev (s : ByteArray) (a : Int) (c : Bool) (q : Int) (large ex : Bool) : ∃ o, Ev (fun k => impl_scan_levels.f k s a true c q large ex) (o, s, a, true) := by
 have h64 : ∃ o, Ev (fun k => impl_scan_levels.j0 k true s a true) (o, s, a, true) :=
  ⟨_, Ev.step (fun k => by simp only [impl_scan_levels.j0, if_true]; rfl) (Ev.bind (iruns_bad s a 64 (by omega)) (Ev.now _))⟩
 have h16 : ∃ o, Ev (fun k => impl_scan_levels.j0 k false s a true) (o, s, a, true) := by
  obtain ⟨o, e⟩ := ilev_bad s 4 0 [] a (by omega) (by simp)
  exact ⟨o, Ev.step (fun k => by simp only [impl_scan_levels.j0, Bool.false_eq_true, if_false]; rfl) e⟩
 unfold impl_scan_levels.f
 cases large <;> cases ex <;> simp only [if_true, Bool.false_eq_true, if_false] <;> assumption
def levV (s : ByteArray) (a q : Int) (large ex : Bool) : List Int × Int × Bool := if openB s a = true ∧ condB q large ex = true then outR (levelsR s large ex a.toNat) else ([], 0, false)
theorem readlevels_ev (s : ByteArray) (a : Int) (c : Bool) (q : Int) (large ex : Bool) : Ev (fun k => impl_ReadLevels.f k s a c q large ex) (levV s a q large ex) := by
 unfold impl_ReadLevels.f levV
 refine Ev.bind (opened_ev s a) ?_
 simp only [cond_val, Option.bind_some]
 cases condB q large ex with
 | false => simp only [Bool.false_eq_true, if_false, and_false]; exact Ev.now _
 | true =>
  simp only [if_true, and_true]
  cases hB : openB s a with
  | false =>
   obtain ⟨o, e⟩ := ilevels_badev s a c q large ex
   simp only [Bool.not_false, Bool.false_eq_true, if_false]
   refine Ev.bind e ?_
   simp only [if_true]
   exact Ev.now _
  | true =>
   obtain ⟨hr, h0, h1⟩ := openB_good hB
   obtain ⟨p, rfl⟩ := Int.eq_ofNat_of_zero_le h0
   obtain ⟨o, r, b, e, hv⟩ := ilevels_ev s hr c q large ex p (by omega)
   simp only [Bool.not_true, if_true, Int.toNat_natCast]
   refine Ev.bind e ?_
   rw [← hv]
   cases b with
   | true => simp only [if_true]; exact Ev.now _
   | false => simp only [Bool.false_eq_true, if_false]; exact Ev.now _
def FoOk (x : List Int) : Prop := x.length = 16 ∧ allB (-1000) 1000 x = true
instance (x : List Int) : Decidable (FoOk x) := by unfold FoOk; infer_instance
theorem len_dec4 (l : List Int) (n : Nat) (m : Int) (h : m = (n : Int)) : decide ((l.length : Int) = m) = decide (l.length = n) := by rw [decide_eq_decide]; omega
theorem and_false4 {b : Bool} {p : Prop} [Decidable p] (h : ¬ (p ∧ b = true)) : (decide p && b) = false := by
 rw [Bool.eq_false_iff]; intro h'; rw [Bool.and_eq_true, decide_eq_true_eq] at h'; exact h h'
theorem turnedL_len (T x) : (turnedL T x).length = x.length := by simp [turnedL, colsT, rowsT, colT, rowT]
def down64 (x : Int) : Int := (x + 32) / 64
def settledL (l : List Int) : List Int := l.map down64
theorem settledL_len (l : List Int) : (settledL l).length = l.length := by simp [settledL]
theorem down_eq {x : Int} (h0 : -1000000000000 ≤ x) (h1 : x ≤ 1000000000000) :
  (if (64 : Int) = 0 then (none : Option Int) else (if (Int.tmod (wrap64 (x + 32)) 64) < 0 then (some (wrap64 ((wrap64 (Int.tdiv (wrap64 (x + 32)) 64)) - 1))) else (some (wrap64 (Int.tdiv (wrap64 (x + 32)) 64))))) = some (down64 x) := by
 rw [if_neg (by omega), wrap_id (x := x + 32) (by omega) (by omega)]
 unfold down64
 generalize hy : x + 32 = y
 have h2 : -1000000000100 ≤ y := by omega
 have h3 : y ≤ 1000000000100 := by omega
 clear hy h0 h1
 have hd : Int.tdiv y 64 * 64 + Int.tmod y 64 = y := Int.tdiv_mul_add_tmod y 64
 by_cases c : Int.tmod y 64 < 0
 ·have hl : -64 < Int.tmod y 64 := by
   have := Int.lt_tmod_of_pos y (b := 64) (by omega)
   omega
  rw [if_pos c, wrap_id (x := Int.tdiv y 64) (by omega) (by omega), wrap_id (by omega) (by omega)]
  congr 1
  omega
 ·have hl : Int.tmod y 64 < 64 := Int.tmod_lt_of_pos y (by omega)
  rw [if_neg c, wrap_id (x := Int.tdiv y 64) (by omega) (by omega)]
  congr 1
  omega
/-- A row that is settled up to i. -/
def setTo (l : List Int) (i : Nat) : List Int := (settledL l).take i ++ l.drop i
theorem setTo_len (l : List Int) (i : Nat) (h : i ≤ l.length) : (setTo l i).length = l.length := by
 unfold setTo
 rw [List.length_append, List.length_take, List.length_drop, settledL_len]
 omega
theorem setTo_rd (l : List Int) (i : Nat) (h : i < l.length) : rd (setTo l i) (i : Int) = l[i] := by
 unfold rd setTo
 rw [Int.toNat_natCast, List.getD_eq_getElem?_getD, List.getElem?_append_right (by rw [List.length_take, settledL_len]; omega), List.length_take, settledL_len, Nat.min_eq_left (by omega), Nat.sub_self, List.getElem?_drop, Nat.add_zero, List.getElem?_eq_getElem h]
 rfl
theorem setTo_set (l : List Int) (i : Nat) (h : i < l.length) : (setTo l i).set i (down64 l[i]) = setTo l (i + 1) := by
 have e : down64 l[i] = (settledL l)[i]'(by rw [settledL_len]; exact h) := by simp [settledL]
 rw [e]
 exact mix_set (settledL l) l i (by rw [settledL_len]; exact h) h
theorem setTo_end (l : List Int) : setTo l l.length = settledL l := by
 unfold setTo
 rw [List.drop_length, List.append_nil, List.take_of_length_le (by rw [settledL_len]; omega)]
theorem settled_ev (l : List Int) (hl : l.length ≤ 17592186043904) (hb : ∀ x ∈ l, -1000000000000 ≤ x ∧ x ≤ 1000000000000) : Ev (fun k => impl_settled.f k l) (settledL l) := by
 have H : ∀ i, i ≤ l.length → Ev (fun k => impl_settled.l0 k (setTo l i) (l.length : Int) (i : Int)) (settledL l) := by
  refine down l.length ?_ ?_
  ·refine Ev.step (f := fun _ => some (settledL l)) (fun k => ?_) (Ev.now _)
   simp only [impl_settled.l0]
   rw [if_neg (by omega), setTo_end]
  ·intro i hi h
   have hx := hb l[i] (List.getElem_mem _)
   refine Ev.step (fun k => ?_) h
   simp only [impl_settled.l0]
   rw [if_pos (by omega), if_pos (by omega), if_pos (by rw [setTo_len l i (by omega)]; omega), setTo_rd l i hi]
   unfold impl_floor.f
   rw [down_eq hx.1 hx.2, Option.bind_some, Int.toNat_natCast, setTo_set l i hi, wrap_id (by omega) (by omega), cast1]
 have h0 := H 0 (by omega)
 unfold impl_settled.f
 exact h0
def FbOk (x : List Int) : Prop := x.length = 16 ∧ allB (-10000000) 10000000 x = true
instance (x : List Int) : Decidable (FbOk x) := by unfold FbOk; infer_instance
def fbv (x : List Int) : List Int := if FbOk x then settledL (turnedL b4 x) else []
theorem fl2_small {x M : Int} (hM : M ≤ 1000000000000) (h0 : -M ≤ x) (h1 : x ≤ M) : -M - 1 ≤ fl2 x ∧ fl2 x ≤ M := by
 unfold fl2
 have hd : Int.tdiv x 2 * 2 + Int.tmod x 2 = x := Int.tdiv_mul_add_tmod x 2
 have hl : -2 < Int.tmod x 2 := by have := Int.lt_tmod_of_pos x (b := 2) (by omega); omega
 have hr : Int.tmod x 2 < 2 := Int.tmod_lt_of_pos x (by omega)
 generalize Int.tmod x 2 = m at hd hl hr
 generalize Int.tdiv x 2 = q at hd
 split
 ·rw [wrap_id (x := q) (by omega) (by omega), wrap_id (by omega) (by omega)]; omega
 ·rw [wrap_id (x := q) (by omega) (by omega)]; omega
theorem b4_small {a b c d M : Int} (hM : M ≤ 200000000000) (ha : -M ≤ a ∧ a ≤ M) (hb : -M ≤ b ∧ b ≤ M) (hc : -M ≤ c ∧ c ≤ M) (hd : -M ≤ d ∧ d ≤ M) :
  (-(4 * M + 4) ≤ (b4 a b c d).1 ∧ (b4 a b c d).1 ≤ 4 * M + 4) ∧ (-(4 * M + 4) ≤ (b4 a b c d).2.1 ∧ (b4 a b c d).2.1 ≤ 4 * M + 4) ∧ (-(4 * M + 4) ≤ (b4 a b c d).2.2.1 ∧ (b4 a b c d).2.2.1 ≤ 4 * M + 4) ∧ (-(4 * M + 4) ≤ (b4 a b c d).2.2.2 ∧ (b4 a b c d).2.2.2 ≤ 4 * M + 4) := by
 have h1 := fl2_small (x := b) (M := M) (by omega) hb.1 hb.2
 have h2 := fl2_small (x := d) (M := M) (by omega) hd.1 hd.2
 unfold b4
 generalize fl2 b = p at h1
 generalize fl2 d = q at h2
 dsimp only
 rw [wrap_id (x := a + c) (by omega) (by omega), wrap_id (x := a - c) (by omega) (by omega), wrap_id (x := b + q) (by omega) (by omega), wrap_id (x := p - d) (by omega) (by omega)]
 rw [wrap_id (x := a + c + (b + q)) (by omega) (by omega), wrap_id (x := a - c + (p - d)) (by omega) (by omega), wrap_id (x := a - c - (p - d)) (by omega) (by omega), wrap_id (x := a + c - (b + q)) (by omega) (by omega)]
 omega
def InM (M : Int) (x : List Int) : Prop := ∀ v ∈ x, -M ≤ v ∧ v ≤ M
theorem rd_in {M : Int} {x : List Int} (hM : 0 ≤ M) (h : InM M x) (i : Int) : -M ≤ rd x i ∧ rd x i ≤ M := by
 unfold rd
 rw [List.getD_eq_getElem?_getD]
 cases e : x[i.toNat]? with
 | none => simp; omega
 | some v => exact h v (List.mem_of_getElem? e)
theorem set_in {M : Int} {x : List Int} (h : InM M x) (i : Nat) {v : Int} (hv : -M ≤ v ∧ v ≤ M) : InM M (x.set i v) := by
 intro u hu
 rcases List.mem_or_eq_of_mem_set hu with h1 | h1
 ·exact h u h1
 ·rw [h1]; exact hv
theorem grow_in {M N : Int} {x : List Int} (h : InM M x) (hN : M ≤ N) : InM N x := fun v hv => by have := h v hv; omega
theorem rowT_in {M : Int} {x : List Int} (hM : 0 ≤ M) (hM' : M ≤ 200000000000) (h : InM M x) (r : Nat) : InM (4 * M + 4) (rowT b4 x r) := by
 unfold rowT
 have s := b4_small hM' (rd_in hM h r) (rd_in hM h (r + 1 : Nat)) (rd_in hM h (r + 2 : Nat)) (rd_in hM h (r + 3 : Nat))
 exact set_in (set_in (set_in (set_in (grow_in h (by omega)) _ s.1) _ s.2.1) _ s.2.2.1) _ s.2.2.2
theorem colT_in {M : Int} {x : List Int} (hM : 0 ≤ M) (hM' : M ≤ 200000000000) (h : InM M x) (r : Nat) : InM (4 * M + 4) (colT b4 x r) := by
 unfold colT
 have s := b4_small hM' (rd_in hM h r) (rd_in hM h (r + 4 : Nat)) (rd_in hM h (r + 8 : Nat)) (rd_in hM h (r + 12 : Nat))
 exact set_in (set_in (set_in (set_in (grow_in h (by omega)) _ s.1) _ s.2.1) _ s.2.2.1) _ s.2.2.2
theorem turned_small {x : List Int} (h : FbOk x) : ∀ v ∈ turnedL b4 x, -1000000000000 ≤ v ∧ v ≤ 1000000000000 := by
 have h0 : InM 10000000 x := fun v hv => by have := allB_iff.1 h.2 v hv; omega
 have h1 := rowT_in (by omega) (by omega) h0 (4 * 0)
 have h2 := rowT_in (by omega) (by omega) h1 (4 * 1)
 have h3 := rowT_in (by omega) (by omega) h2 (4 * 2)
 have h4 := rowT_in (by omega) (by omega) h3 (4 * 3)
 have h5 := colT_in (by omega) (by omega) h4 0
 have h6 := colT_in (by omega) (by omega) h5 1
 have h7 := colT_in (by omega) (by omega) h6 2
 have h8 := colT_in (by omega) (by omega) h7 3
 exact grow_in h8 (by omega)
theorem fourback_ev (x : List Int) (hx : x.length ≤ 17592186043904) : Ev (fun k => impl_FourBack.f k x) (fbv x) := by
 unfold impl_FourBack.f fbv
 refine Ev.bind (areIn_ev x 16 (-10000000) 10000000 hx) ?_
 rw [len_dec4 x 16 16 rfl]
 by_cases c : FbOk x
 ·rw [if_pos c, decide_eq_true c.1, c.2]
  simp only [Bool.and_self, if_true]
  simp only [if_pos c.1]
  exact Ev.bind (settled_ev _ (by rw [turnedL_len, c.1]; omega) (turned_small c)) (Ev.now _)
 ·rw [if_neg c, and_false4 c]
  simp only [Bool.false_eq_true, if_false]; exact Ev.now _
def ord4 : List Int := [0, 1, 4, 8, 5, 2, 3, 6, 9, 12, 13, 10, 7, 11, 14, 15]
def ord8 : List Int := [0, 1, 8, 16, 9, 2, 3, 10, 17, 24, 32, 25, 18, 11, 4, 5, 12, 19, 26, 33, 40, 48, 41, 34, 27, 20, 13, 6, 7, 14, 21, 28, 35, 42, 49, 56, 57, 50, 43, 36, 29, 22, 15, 23, 30, 37, 44, 51, 58, 59, 52, 45, 38, 31, 39, 46, 53, 60, 61, 54, 47, 55, 62, 63]
def ordOf (side : Int) : List Int := if side = 4 then ord4 else ord8
/-- A side and its number of places. -/
def SideN (side : Int) (n : Nat) : Prop := side = 4 ∧ n = 16 ∨ side = 8 ∧ n = 64
theorem ord_len {side : Int} {n : Nat} (h : SideN side n) : (ordOf side).length = n := by rcases h with ⟨rfl, rfl⟩ | ⟨rfl, rfl⟩ <;> rfl
theorem ord_in {side : Int} {n : Nat} (h : SideN side n) : ∀ x ∈ ordOf side, 0 ≤ x ∧ x < (n : Int) := by
 rcases h with ⟨rfl, rfl⟩ | ⟨rfl, rfl⟩
 ·decide +kernel
 ·decide +kernel
theorem order4 : impl_scanOrder.f 100 4 = some ord4 := by decide +kernel
theorem order8 : impl_scanOrder.f 300 8 = some ord8 := by decide +kernel
theorem order_ev {side : Int} {n : Nat} (h : SideN side n) : Ev (fun k => impl_scanOrder.f k side) (ordOf side) := by
 rcases h with ⟨rfl, rfl⟩ | ⟨rfl, rfl⟩
 ·exact Ev.of (fun k => impl_scanOrder.mono _ _) order4
 ·exact Ev.of (fun k => impl_scanOrder.mono _ _) order8
def ScOk (side : Int) (l : List Int) : Prop := (side = 4 ∧ l.length = 16) ∨ (side = 8 ∧ l.length = 64)
instance (side : Int) (l : List Int) : Decidable (ScOk side l) := by unfold ScOk; infer_instance
theorem scok_side {side : Int} {l : List Int} (h : ScOk side l) : SideN side l.length := by rcases h with ⟨rfl, e⟩ | ⟨rfl, e⟩ <;> rw [e] <;> simp [SideN]
/-- The list that comes of the order of the scan, from place i on. -/
def unsc (side : Int) (l : List Int) : Nat → Nat → List Int → List Int
 | 0, _, out => out
 | d + 1, i, out => unsc side l d (i + 1) (out.set (rd (ordOf side) (i : Int)).toNat (rd l (i : Int)))
theorem unsc_len (side : Int) (l : List Int) (d : Nat) : ∀ i out, (unsc side l d i out).length = out.length := by
 induction d with
 | zero => intro i out; rfl
 | succ d ih => intro i out; simp only [unsc]; rw [ih]; simp
def unscv (side : Int) (l : List Int) : List Int := unsc side l l.length 0 (List.replicate l.length 0)
theorem unscv_len (side : Int) (l : List Int) : (unscv side l).length = l.length := by unfold unscv; rw [unsc_len]; simp
theorem unscanned_loop {side : Int} {l : List Int} (h : SideN side l.length) : ∀ i, i ≤ l.length → ∀ out : List Int, out.length = l.length → Ev (fun k => impl_Unscanned.l0 k l out (ordOf side) ((ordOf side).length : Int) (i : Int)) (unsc side l (l.length - i) i out, true) := by
 have hn := ord_len h
 have hlen : l.length ≤ 64 := by rcases h with ⟨_, e⟩ | ⟨_, e⟩ <;> omega
 refine down l.length ?_ ?_
 ·intro out _
  rw [Nat.sub_self]
  refine Ev.step (f := fun _ => some (out, true)) (fun k => ?_) (Ev.now _)
  simp only [impl_Unscanned.l0]
  rw [if_neg (by omega)]
 ·intro i hi hh out ho
  have e1 : l.length - i = (l.length - (i + 1)) + 1 := by omega
  rw [e1]
  have hb : 0 ≤ rd (ordOf side) (i : Int) ∧ rd (ordOf side) (i : Int) < (l.length : Int) := by
   rw [rd_nat _ i (by omega)]; exact ord_in h _ (List.getElem_mem (by omega))
  refine Ev.step (fun k => ?_) (hh (out.set (rd (ordOf side) (i : Int)).toNat (rd l (i : Int))) (by simpa using ho))
  simp only [impl_Unscanned.l0]
  rw [if_pos (by omega), if_pos (by omega), if_pos (by omega), if_pos (by omega), if_pos hb.1, if_pos (by omega), wrap_id (by omega) (by omega), cast1]
theorem unscanned_ev (side : Int) (l : List Int) : Ev (fun k => impl_Unscanned.f k side l) (if ScOk side l then (unscv side l, true) else ([], false)) := by
 unfold impl_Unscanned.f
 have hbad : Ev (fun k => impl_Unscanned.j0 k side l true) ([], false) := Ev.step (f := fun _ => some ([], false)) (fun k => by simp only [impl_Unscanned.j0]; rfl) (Ev.now _)
 have hok : ScOk side l → Ev (fun k => impl_Unscanned.j0 k side l false) (unscv side l, true) := fun h => by
  have hlen : l.length ≤ 64 := by rcases h with ⟨_, e⟩ | ⟨_, e⟩ <;> omega
  refine Ev.step (fun k => by simp only [impl_Unscanned.j0, Bool.false_eq_true, if_false]; rw [if_pos (by omega), if_pos (by simp; omega), Int.toNat_natCast]) (Ev.bind (order_ev (scok_side h)) ?_)
  exact unscanned_loop (scok_side h) 0 (by omega) _ (by simp)
 by_cases c4 : side = 4
 ·subst c4
  rw [wrap_id (x := 4 * 4) (by omega) (by omega)]
  by_cases c : l.length = 16
  ·rw [if_pos (.inl ⟨rfl, c⟩)]
   simp only [if_true, c, show (((16 : Nat) : Int) != 4 * 4) = false from by decide]
   exact hok (.inl ⟨rfl, c⟩)
  ·rw [if_neg (by rintro (⟨_, h⟩ | ⟨h, _⟩); exact c h; exact absurd h (by decide))]
   simp only [if_true, show ((l.length : Int) != 4 * 4) = true from by rw [bne_iff_ne]; omega]
   exact hbad
 ·by_cases c8 : side = 8
  ·subst c8
   simp only [if_neg c4]
   rw [wrap_id (x := 8 * 8) (by omega) (by omega)]
   by_cases c : l.length = 64
   ·rw [if_pos (.inr ⟨rfl, c⟩)]
    simp only [if_true, c, show (((64 : Nat) : Int) != 8 * 8) = false from by decide]
    exact hok (.inr ⟨rfl, c⟩)
   ·rw [if_neg (by rintro (⟨h, _⟩ | ⟨_, h⟩); exact absurd h (by decide); exact c h)]
    simp only [if_true, show ((l.length : Int) != 8 * 8) = true from by rw [bne_iff_ne]; omega]
    exact hbad
  ·rw [if_neg (by rintro (⟨h, _⟩ | ⟨h, _⟩); exact c4 h; exact c8 h)]
   simp only [if_neg c4, if_neg c8]
   exact hbad
def atq (k i : Nat) : Nat := 8 * (k / 2 * 4 + i / 4) + k % 2 * 4 + i % 4
def qL (k : Nat) : List Int := (List.range 16).map fun i => (atq k i : Int)
theorem qL_len (k : Nat) : (qL k).length = 16 := by simp [qL]
theorem atq_lt (k i : Nat) (hk : k < 4) (hi : i < 16) : atq k i < 64 := by unfold atq; omega
theorem qL_rd (k i : Nat) (hi : i < 16) : rd (qL k) (i : Int) = (atq k i : Int) := by
 rw [rd_nat _ i (by rw [qL_len]; exact hi)]; simp [qL]
theorem mix_rd (m l : List Int) (i : Nat) (hi : i < l.length) (h : m.length = l.length) : rd (m.take i ++ l.drop i) (i : Int) = l[i] := by
 unfold rd
 rw [Int.toNat_natCast, List.getD_eq_getElem?_getD, List.getElem?_append_right (by rw [List.length_take]; omega), List.length_take, Nat.min_eq_left (by omega), Nat.sub_self, List.getElem?_drop, Nat.add_zero, List.getElem?_eq_getElem hi]
 rfl
theorem quarter_fin : ∀ k : Fin 4, impl_quarter.f 60 (k.val : Int) = some (qL k.val) := by decide +kernel
theorem quarter_ev (k : Nat) (hk : k < 4) : Ev (fun n => impl_quarter.f n (k : Int)) (qL k) := Ev.of (fun n => impl_quarter.mono _ _) (quarter_fin ⟨k, hk⟩)
def sg (u k : Nat) : Int := if (u % 2 * (k % 2) + u / 2 % 2 * (k / 2 % 2) + u / 4 % 2 * (k / 4 % 2)) % 2 = 0 then 1 else -1
theorem sg_one (u k : Nat) : sg u k = 1 ∨ sg u k = -1 := by unfold sg; split <;> simp
/-- The sum of f 0 .. f (n - 1). -/
def sm (f : Nat → Int) : Nat → Int
 | 0 => 0
 | n + 1 => sm f n + f n
theorem sm_bound (f : Nat → Int) (B : Int) (n : Nat) (h : ∀ k, k < n → -B ≤ f k ∧ f k ≤ B) : -((n : Int) * B) ≤ sm f n ∧ sm f n ≤ (n : Int) * B := by
 induction n with
 | zero => simp [sm]
 | succ n ih =>
  have h1 := ih (fun k hk => h k (by omega))
  have h2 := h n (by omega)
  have e : ((n + 1 : Nat) : Int) * B = (n : Int) * B + B := by rw [show ((n + 1 : Nat) : Int) = (n : Int) + 1 from rfl, Int.add_mul, Int.one_mul]
  simp only [sm]; rw [e]; omega
theorem sgmul_bound {B x : Int} (u k : Nat) (h : -B ≤ x ∧ x ≤ B) : -B ≤ sg u k * x ∧ sg u k * x ≤ B := by
 rcases sg_one u k with e | e <;> rw [e] <;> omega
def halfAt (x : List Int) (i : Nat) (k : Nat) : Int := sg (i % 8) k * rd x ((8 * (i / 8) + k : Nat) : Int)
def halfv (x : List Int) : List Int := (List.range 64).map fun i => sm (halfAt x i) 8
def outAt (h : List Int) (i : Nat) (j : Nat) : Int := sg (i / 8) j * rd h ((8 * j + i % 8 : Nat) : Int)
def sums2 (h : List Int) : List Int := (List.range 64).map fun i => sm (outAt h i) 8
def sumsv (x : List Int) : List Int := sums2 (halfv x)
theorem halfv_len (x : List Int) : (halfv x).length = 64 := by simp [halfv]
theorem sums2_len (x : List Int) : (sums2 x).length = 64 := by simp [sums2]
theorem sumsv_len (x : List Int) : (sumsv x).length = 64 := sums2_len _
theorem halfv_get (x : List Int) (i : Nat) (h : i < (halfv x).length) : (halfv x)[i] = sm (halfAt x i) 8 := by simp [halfv]
theorem sums2_get (x : List Int) (i : Nat) (h : i < (sums2 x).length) : (sums2 x)[i] = sm (outAt x i) 8 := by simp [sums2]
theorem allB_at {lo hi : Int} {l : List Int} (h : allB lo hi l = true) (i : Nat) (hi' : i < l.length) : lo ≤ rd l (i : Int) ∧ rd l (i : Int) ≤ hi := by
 rw [rd_nat l i hi']; exact allB_iff.1 h _ (List.getElem_mem _)
theorem half_bound {x : List Int} {M : Int} (hx : x.length = 64) (h : allB (-M) M x = true) (i : Nat) (hi : i < 64) (n : Nat) (hn : n ≤ 8) : -((n : Int) * M) ≤ sm (halfAt x i) n ∧ sm (halfAt x i) n ≤ (n : Int) * M :=
 sm_bound _ M n fun k hk => sgmul_bound _ _ (allB_at h _ (by omega))
theorem halfv_all {x : List Int} {M : Int} (hx : x.length = 64) (h : allB (-M) M x = true) : allB (-(8 * M)) (8 * M) (halfv x) = true := by
 rw [allB_iff]
 intro v hv
 obtain ⟨i, hi, rfl⟩ := List.mem_iff_getElem.1 hv
 rw [halfv_get]
 have := half_bound hx h i (by rw [halfv_len] at hi; exact hi) 8 (by omega)
 omega
theorem out_bound {x : List Int} {M : Int} (hx : x.length = 64) (h : allB (-M) M x = true) (i : Nat) (hi : i < 64) (n : Nat) (hn : n ≤ 8) : -((n : Int) * M) ≤ sm (outAt x i) n ∧ sm (outAt x i) n ≤ (n : Int) * M :=
 sm_bound _ M n fun k hk => sgmul_bound _ _ (allB_at h _ (by omega))
theorem sums2_all {x : List Int} {M : Int} (hx : x.length = 64) (h : allB (-M) M x = true) : allB (-(8 * M)) (8 * M) (sums2 x) = true := by
 rw [allB_iff]
 intro v hv
 obtain ⟨i, hi, rfl⟩ := List.mem_iff_getElem.1 hv
 rw [sums2_get]
 have := out_bound hx h i (by rw [sums2_len] at hi; exact hi) 8 (by omega)
 omega
theorem sumsv_all {x : List Int} {M : Int} (hx : x.length = 64) (h : allB (-M) M x = true) : allB (-(64 * M)) (64 * M) (sumsv x) = true := by
 have h2 := sums2_all (halfv_len x) (halfv_all hx h)
 rw [show 8 * (8 * M) = 64 * M by omega] at h2
 exact h2
/-- The first p of l, then noughts, 64 in all. -/
def fillB (l : List Int) (p : Nat) : List Int := l.take p ++ (List.replicate 64 (0 : Int)).drop p
theorem fill_len (l : List Int) (hl : l.length = 64) (p : Nat) (hp : p ≤ 64) : (fillB l p).length = 64 := by
 unfold fillB; rw [mix_length _ _ _ (by simp [hl]) (by omega)]; exact hl
theorem fill_set0 (l : List Int) (hl : l.length = 64) (p : Nat) (hp : p < 64) : (fillB l p).set p 0 = fillB l p := by
 have e : fillB l p = l.take p ++ (0 :: (List.replicate 64 (0 : Int)).drop (p + 1)) := by
  unfold fillB
  rw [List.drop_eq_getElem_cons (by simp; omega), List.getElem_replicate]
 rw [e, List.set_append_right _ _ (by simp; omega), show p - (l.take p).length = 0 by simp; omega, List.set_cons_zero]
theorem fill_set1 (l : List Int) (hl : l.length = 64) (p : Nat) (hp : p < 64) : (fillB l p).set p (l[p]'(by omega)) = fillB l (p + 1) := mix_set l _ p (by omega) (by simp; omega)
theorem fill_rd (l : List Int) (hl : l.length = 64) (p : Nat) (hp : p < 64) (y : Int) : rd ((fillB l p).set p y) (p : Int) = y := by
 rw [rd_nat _ p (by rw [List.length_set, fill_len l hl p (by omega)]; exact hp), List.getElem_set_self]
theorem fill_end (l : List Int) (hl : l.length = 64) : fillB l 64 = l := by
 have := mix_end l (List.replicate 64 (0 : Int)) (by simp [hl])
 rw [hl] at this; exact this
theorem idx8 (r v : Nat) (hr : r < 8) (hv : v < 8) : wrap64 (wrap64 (8 * (r : Int)) + (v : Int)) = ((8 * r + v : Nat) : Int) := by
 rw [wrap_id (x := 8 * (r : Int)) (by omega) (by omega), wrap_id (by omega) (by omega)]; omega
theorem sign_fin : ∀ i j : Fin 8, impl_SignOf.f 3 (i.val : Int) (j.val : Int) = some (sg i.val j.val) := by decide +kernel
theorem sign_ev (u k : Nat) (hu : u < 8) (hk : k < 8) : Ev (fun n => impl_SignOf.f n (u : Int) (k : Int)) (sg u k) := Ev.of (fun n => impl_SignOf.mono _ _ _) (sign_fin ⟨u, hu⟩ ⟨k, hk⟩)
theorem sums_l2 (x : List Int) (hx : x.length = 64) (M : Int) (hM : M ≤ 1000000000) (hb : allB (-M) M x = true) (r v : Nat) (hr : r < 8) (hv : v < 8) (R : List Int)
  (hh : Ev (fun k => impl_sums.l1 k x (fillB (halfv x) (8 * r + v + 1)) (r : Int) (r : Int) ((v + 1 : Nat) : Int)) R) :
  ∀ m : Nat, m ≤ 8 → Ev (fun k => impl_sums.l2 k x ((fillB (halfv x) (8 * r + v)).set (8 * r + v) (sm (halfAt x (8 * r + v)) m)) (r : Int) (v : Int) (r : Int) (v : Int) (m : Int)) R := by
 have hl := halfv_len x
 refine down 8 ?_ ?_
 ·refine Ev.step (fun k => ?_) hh
  simp only [impl_sums.l2]
  rw [if_neg (by omega), ← halfv_get x (8 * r + v) (by omega), fill_set1 _ hl _ (by omega), wrap_id (by omega) (by omega), cast1]
 ·intro m hm h'
  have b1 := half_bound hx hb (8 * r + v) (by omega) m (by omega)
  have b2 : -M ≤ sg v m * rd x ((8 * r + m : Nat) : Int) ∧ sg v m * rd x ((8 * r + m : Nat) : Int) ≤ M := sgmul_bound _ _ (allB_at hb _ (by omega))
  have b3 : (m : Int) * M ≤ 8 * 1000000000 ∧ 0 ≤ (m : Int) * M := by
   have h0 : 0 ≤ M := by omega
   exact ⟨Int.mul_le_mul (by omega) hM h0 (by omega), Int.mul_nonneg (by omega) h0⟩
  have e : sm (halfAt x (8 * r + v)) (m + 1) = sm (halfAt x (8 * r + v)) m + sg v m * rd x ((8 * r + m : Nat) : Int) := by
   simp only [sm, halfAt]
   rw [show (8 * r + v) % 8 = v by omega, show (8 * r + v) / 8 = r by omega]
  refine Ev.step (f := fun k => (impl_SignOf.f k (v : Int) (m : Int)).bind fun t => impl_sums.l2 k x (((fillB (halfv x) (8 * r + v)).set (8 * r + v) (sm (halfAt x (8 * r + v)) m)).set (8 * r + v) (wrap64 (sm (halfAt x (8 * r + v)) m + wrap64 (t * rd x ((8 * r + m : Nat) : Int))))) (r : Int) (v : Int) (r : Int) (v : Int) ((m + 1 : Nat) : Int)) (fun k => ?_) (Ev.bind (sign_ev v m hv hm) ?_)
  ·simp only [impl_sums.l2]
   rw [if_pos (by omega), idx8 r v hr hv, idx8 r m hr hm, if_pos (by omega), if_pos (by rw [List.length_set, fill_len _ hl _ (by omega)]; omega), fill_rd _ hl _ (by omega), wrap_id (x := (m : Int) + 1) (by omega) (by omega), cast1]
   congr 1
   funext t
   rw [if_pos (by omega), if_pos (by omega), Int.toNat_natCast]
  ·rw [List.set_set, wrap_id (x := sg v m * _) (by omega) (by omega), wrap_id (by omega) (by omega), ← e]
   exact h'
theorem sums_l1 (x : List Int) (hx : x.length = 64) (M : Int) (hM : M ≤ 1000000000) (hb : allB (-M) M x = true) (r : Nat) (hr : r < 8) (R : List Int)
  (hh : Ev (fun k => impl_sums.l0 k x (fillB (halfv x) (8 * (r + 1))) ((r + 1 : Nat) : Int)) R) :
  ∀ v : Nat, v ≤ 8 → Ev (fun k => impl_sums.l1 k x (fillB (halfv x) (8 * r + v)) (r : Int) (r : Int) (v : Int)) R := by
 refine down 8 ?_ ?_
 ·refine Ev.step (fun k => ?_) hh
  simp only [impl_sums.l1]
  rw [if_neg (by omega), wrap_id (by omega) (by omega), cast1]; rfl
 ·intro v hv h'
  refine Ev.step (fun k => ?_) (sums_l2 x hx M hM hb r v hr hv R h' 0 (by omega))
  simp only [impl_sums.l1]
  rw [if_pos (by omega), sm, fill_set0 _ (halfv_len x) _ (by omega)]; rfl
theorem sums_l0 (x : List Int) (hx : x.length = 64) (M : Int) (hM : M ≤ 1000000000) (hb : allB (-M) M x = true) (R : List Int)
  (hh : Ev (fun k => impl_sums.l3 k (halfv x) (List.replicate 64 0) 0) R) :
  ∀ r : Nat, r ≤ 8 → Ev (fun k => impl_sums.l0 k x (fillB (halfv x) (8 * r)) (r : Int)) R := by
 refine down 8 ?_ ?_
 ·refine Ev.step (fun k => ?_) hh
  simp only [impl_sums.l0]
  rw [if_neg (by omega), if_pos (by decide), fill_end _ (halfv_len x)]
 ·intro r hr h'
  refine Ev.step (fun k => ?_) (sums_l1 x hx M hM hb r hr R h' 0 (by omega))
  simp only [impl_sums.l0]
  rw [if_pos (by omega)]; rfl
theorem sums_l5 (x : List Int) (hx : x.length = 64) (M : Int) (hM : M ≤ 1000000000) (hb : allB (-M) M x = true) (r v : Nat) (hr : r < 8) (hv : v < 8) (R : List Int)
  (hh : Ev (fun k => impl_sums.l4 k x (fillB (sums2 x) (8 * r + v + 1)) (r : Int) (r : Int) ((v + 1 : Nat) : Int)) R) :
  ∀ m : Nat, m ≤ 8 → Ev (fun k => impl_sums.l5 k x ((fillB (sums2 x) (8 * r + v)).set (8 * r + v) (sm (outAt x (8 * r + v)) m)) (r : Int) (v : Int) (r : Int) (v : Int) (m : Int)) R := by
 have hl := sums2_len x
 refine down 8 ?_ ?_
 ·refine Ev.step (fun k => ?_) hh
  simp only [impl_sums.l5]
  rw [if_neg (by omega), ← sums2_get x (8 * r + v) (by omega), fill_set1 _ hl _ (by omega), wrap_id (by omega) (by omega), cast1]
 ·intro m hm h'
  have b1 := out_bound hx hb (8 * r + v) (by omega) m (by omega)
  have b2 : -M ≤ sg r m * rd x ((8 * m + v : Nat) : Int) ∧ sg r m * rd x ((8 * m + v : Nat) : Int) ≤ M := sgmul_bound _ _ (allB_at hb _ (by omega))
  have b3 : (m : Int) * M ≤ 8 * 1000000000 ∧ 0 ≤ (m : Int) * M := by
   have h0 : 0 ≤ M := by omega
   exact ⟨Int.mul_le_mul (by omega) hM h0 (by omega), Int.mul_nonneg (by omega) h0⟩
  have e : sm (outAt x (8 * r + v)) (m + 1) = sm (outAt x (8 * r + v)) m + sg r m * rd x ((8 * m + v : Nat) : Int) := by
   simp only [sm, outAt]
   rw [show (8 * r + v) % 8 = v by omega, show (8 * r + v) / 8 = r by omega]
  refine Ev.step (f := fun k => (impl_SignOf.f k (r : Int) (m : Int)).bind fun t => impl_sums.l5 k x (((fillB (sums2 x) (8 * r + v)).set (8 * r + v) (sm (outAt x (8 * r + v)) m)).set (8 * r + v) (wrap64 (sm (outAt x (8 * r + v)) m + wrap64 (t * rd x ((8 * m + v : Nat) : Int))))) (r : Int) (v : Int) (r : Int) (v : Int) ((m + 1 : Nat) : Int)) (fun k => ?_) (Ev.bind (sign_ev r m hr hm) ?_)
  ·simp only [impl_sums.l5]
   rw [if_pos (by omega), idx8 r v hr hv, idx8 m v hm hv, if_pos (by omega), if_pos (by rw [List.length_set, fill_len _ hl _ (by omega)]; omega), fill_rd _ hl _ (by omega), wrap_id (x := (m : Int) + 1) (by omega) (by omega), cast1]
   congr 1
   funext t
   rw [if_pos (by omega), if_pos (by omega), Int.toNat_natCast]
  ·rw [List.set_set, wrap_id (x := sg r m * _) (by omega) (by omega), wrap_id (by omega) (by omega), ← e]
   exact h'
theorem sums_l4 (x : List Int) (hx : x.length = 64) (M : Int) (hM : M ≤ 1000000000) (hb : allB (-M) M x = true) (r : Nat) (hr : r < 8) (R : List Int)
  (hh : Ev (fun k => impl_sums.l3 k x (fillB (sums2 x) (8 * (r + 1))) ((r + 1 : Nat) : Int)) R) :
  ∀ v : Nat, v ≤ 8 → Ev (fun k => impl_sums.l4 k x (fillB (sums2 x) (8 * r + v)) (r : Int) (r : Int) (v : Int)) R := by
 refine down 8 ?_ ?_
 ·refine Ev.step (fun k => ?_) hh
  simp only [impl_sums.l4]
  rw [if_neg (by omega), wrap_id (by omega) (by omega), cast1]; rfl
 ·intro v hv h'
  refine Ev.step (fun k => ?_) (sums_l5 x hx M hM hb r v hr hv R h' 0 (by omega))
  simp only [impl_sums.l4]
  rw [if_pos (by omega), sm, fill_set0 _ (sums2_len x) _ (by omega)]; rfl
theorem sums_l3 (x : List Int) (hx : x.length = 64) (M : Int) (hM : M ≤ 1000000000) (hb : allB (-M) M x = true) :
  ∀ r : Nat, r ≤ 8 → Ev (fun k => impl_sums.l3 k x (fillB (sums2 x) (8 * r)) (r : Int)) (sums2 x) := by
 refine down 8 ?_ ?_
 ·refine Ev.step (f := fun _ => some (sums2 x)) (fun k => ?_) (Ev.now _)
  simp only [impl_sums.l3]
  rw [if_neg (by omega), fill_end _ (sums2_len x)]
 ·intro r hr h'
  refine Ev.step (fun k => ?_) (sums_l4 x hx M hM hb r hr _ h' 0 (by omega))
  simp only [impl_sums.l3]
  rw [if_pos (by omega)]; rfl
theorem fill_zero (l : List Int) : fillB l 0 = List.replicate 64 0 := by simp [fillB]
theorem sums_ev (x : List Int) (hx : x.length = 64) (M : Int) (hM : M ≤ 100000000) (hb : allB (-M) M x = true) : Ev (fun k => impl_sums.f k x) (sumsv x) := by
 unfold impl_sums.f
 have h2 := sums_l3 (halfv x) (halfv_len x) (8 * M) (by omega) (halfv_all hx hb) 0 (by omega)
 rw [Nat.mul_zero, fill_zero] at h2
 have h1 := sums_l0 x hx M (by omega) hb _ h2 0 (by omega)
 rw [Nat.mul_zero, fill_zero] at h1
 refine Ev.congr (fun k => ?_) h1
 rw [if_pos (by decide)]; rfl
def EiOk (x : List Int) : Prop := x.length = 64 ∧ allB (-1000) 1000 x = true
instance (x : List Int) : Decidable (EiOk x) := by unfold EiOk; infer_instance
theorem len_dece (l : List Int) (n : Nat) (m : Int) (h : m = (n : Int)) : decide ((l.length : Int) = m) = decide (l.length = n) := by rw [decide_eq_decide]; omega
theorem and_falsee {b : Bool} {p : Prop} [Decidable p] (h : ¬ (p ∧ b = true)) : (decide p && b) = false := by
 rw [Bool.eq_false_iff]; intro h'; rw [Bool.and_eq_true, decide_eq_true_eq] at h'; exact h h'
def EbOk (x : List Int) : Prop := x.length = 64 ∧ allB (-10000000) 10000000 x = true
instance (x : List Int) : Decidable (EbOk x) := by unfold EbOk; infer_instance
def ebv (x : List Int) : List Int := if EbOk x then settledL (sumsv x) else []
theorem sumsv_small {x : List Int} (h : EbOk x) : ∀ v ∈ sumsv x, -1000000000000 ≤ v ∧ v ≤ 1000000000000 := by
 have := allB_iff.1 (sumsv_all h.1 h.2)
 intro v hv
 have h1 := this v hv
 omega
theorem eightback_ev (x : List Int) (hx : x.length ≤ 17592186043904) : Ev (fun k => impl_EightBack.f k x) (ebv x) := by
 unfold impl_EightBack.f ebv
 refine Ev.bind (areIn_ev x 64 (-10000000) 10000000 hx) ?_
 rw [len_dece x 64 64 rfl]
 by_cases c : EbOk x
 ·rw [if_pos c, decide_eq_true c.1, c.2]
  simp only [Bool.and_self, if_true]
  exact Ev.bind (sums_ev x c.1 10000000 (by omega) c.2) (Ev.bind (settled_ev _ (by rw [sumsv_len]; omega) (sumsv_small c)) (Ev.now _))
 ·rw [if_neg c, and_falsee c]
  simp only [Bool.false_eq_true, if_false]; exact Ev.now _
/-- The kind of a place of sixteen. -/
def kindN (a : Int) : Int := if 0 ≤ a ∧ a ≤ 15 then (if a / 4 % 2 = 0 ∧ a % 4 % 2 = 0 then 0 else if a / 4 % 2 = 1 ∧ a % 4 % 2 = 1 then 1 else 2) else -1
theorem kindN_in {a : Int} (h : 0 ≤ a ∧ a ≤ 15) : 0 ≤ kindN a ∧ kindN a < 3 := by
 unfold kindN
 rw [if_pos h]
 by_cases c1 : a / 4 % 2 = 0 ∧ a % 4 % 2 = 0
 ·rw [if_pos c1]; omega
 ·rw [if_neg c1]
  by_cases c2 : a / 4 % 2 = 1 ∧ a % 4 % 2 = 1
  ·rw [if_pos c2]; omega
  ·rw [if_neg c2]; omega
theorem kind_parts {a : Int} (h : 0 ≤ a ∧ a ≤ 15) : Int.tmod (wrap64 (Int.tdiv a 4)) 2 = a / 4 % 2 ∧ Int.tmod (Int.tmod a 4) 2 = a % 4 % 2 := by
 rw [Int.tdiv_eq_ediv_of_nonneg h.1, wrap_id (by omega) (by omega), Int.tmod_eq_emod_of_nonneg (a := a / 4) (by omega), Int.tmod_eq_emod_of_nonneg (a := a) h.1, Int.tmod_eq_emod_of_nonneg (a := a % 4) (by omega)]
 exact ⟨rfl, rfl⟩
theorem kind_ev (a : Int) : Ev (fun k => impl_KindOf.f k a) (kindN a) := by
 unfold impl_KindOf.f kindN
 simp only [within_eq, Option.bind_some]
 by_cases h : 0 ≤ a ∧ a ≤ 15
 ·obtain ⟨e1, e2⟩ := kind_parts h
  simp only [decide_eq_true h, if_true, h, and_self, e1, e2]
  have hr : a / 4 % 2 = 0 ∨ a / 4 % 2 = 1 := by omega
  have hc : a % 4 % 2 = 0 ∨ a % 4 % 2 = 1 := by omega
  generalize a / 4 % 2 = x at hr
  generalize a % 4 % 2 = y at hc
  rcases hr with rfl | rfl <;> rcases hc with rfl | rfl <;> exact Ev.step (fun k => by simp only [impl_KindOf.j0]; rfl) (Ev.now _)
 ·simp only [decide_eq_false h, h, if_false, Bool.false_eq_true]
  exact Ev.now _
theorem pow_le_nat {a b : Nat} (h : a ≤ b) : (2 : Int) ^ a ≤ 2 ^ b := by
 have := Nat.pow_le_pow_right (show 0 < 2 by omega) h
 exact_mod_cast this
theorem pow_ge1 (a : Nat) : (1 : Int) ≤ 2 ^ a := Int.pow_pos (by omega)
theorem shl_val {x e : Int} (hx : 0 ≤ x ∧ x ≤ 30000) (he : 0 ≤ e ∧ e ≤ 25) : shl .i64 x e = x * 2 ^ e.toNat := by
 unfold shl
 have hm : min e.toNat IntKind.i64.bits = e.toNat := Nat.min_eq_left (by show e.toNat ≤ 64; omega)
 rw [hm, i64_w]
 have hp := pow_le_nat (a := e.toNat) (b := 25) (by omega)
 have h1 := pow_ge1 e.toNat
 have hb : x * 2 ^ e.toNat ≤ 30000 * 2 ^ 25 := Int.mul_le_mul hx.2 hp (by omega) (by omega)
 have h0 : 0 ≤ x * 2 ^ e.toNat := Int.mul_nonneg hx.1 (by omega)
 rw [wrap_id (by omega) (by omega)]
def scaleN (q p : Int) : Int := if (0 ≤ q ∧ q ≤ 40) ∧ 0 ≤ p ∧ p ≤ 15 then scaleT (q % 6) (kindN p) * 2 ^ (q / 6).toNat else 0
theorem scaleT_in (q k : Int) : 10 ≤ scaleT q k ∧ scaleT q k ≤ 29 := by
 unfold scaleT
 repeat' split
 all_goals omega
theorem scale_ev (q p : Int) : Ev (fun k => impl_ScaleOf.f k q p) (scaleN q p) := by
 unfold impl_ScaleOf.f scaleN
 simp only [within_eq, Option.bind_some]
 by_cases h1 : 0 ≤ q ∧ q ≤ 40
 ·by_cases h2 : 0 ≤ p ∧ p ≤ 15
  ·simp only [if_true, h1, h2, and_self, decide_true]
   refine Ev.bind (kind_ev p) ?_
   have hs := scaleT_in (q % 6) (kindN p)
   have e : wrap64 (Int.tdiv q 6) = q / 6 := by rw [Int.tdiv_eq_ediv_of_nonneg h1.1, wrap_id (by omega) (by omega)]
   rw [if_pos (kindN_in h2), Int.tmod_eq_emod_of_nonneg h1.1, e, shl_val (by omega) (by omega)]
   exact Ev.now _
  ·simp only [h1, and_self, decide_true, decide_eq_false h2, if_true, h2, and_false, if_false, Bool.false_eq_true]
   exact Ev.now _
 ·simp only [decide_eq_false h1, if_false, h1, false_and, Bool.false_eq_true]
  exact Ev.now _
def stepT (m : Int) : Int := if m = 0 then 10 else if m = 1 then 11 else if m = 2 then 13 else if m = 3 then 14 else if m = 4 then 16 else 18
def stepN (q : Int) : Int := if 0 ≤ q ∧ q ≤ 40 then stepT (q % 6) * 2 ^ (q / 6).toNat else 0
theorem stepT_in (m : Int) : 10 ≤ stepT m ∧ stepT m ≤ 18 := by
 unfold stepT
 repeat' split
 all_goals omega
theorem stepN_in {q : Int} (h : 0 ≤ q ∧ q ≤ 40) : 10 ≤ stepN q ∧ stepN q ≤ 1152 := by
 unfold stepN
 rw [if_pos h]
 have hs := stepT_in (q % 6)
 have hp := pow_le_nat (a := (q / 6).toNat) (b := 6) (by omega)
 have hp1 := pow_ge1 (q / 6).toNat
 have a1 : stepT (q % 6) * 2 ^ (q / 6).toNat ≤ 18 * 2 ^ 6 := Int.mul_le_mul hs.2 hp (by omega) (by omega)
 have a2 : stepT (q % 6) * 1 ≤ stepT (q % 6) * 2 ^ (q / 6).toNat := Int.mul_le_mul_of_nonneg_left hp1 (by omega)
 omega
theorem step_val (q : Int) : impl_StepOf.f q = some (stepN q) := by
 unfold impl_StepOf.f stepN
 simp only [within_eq, Option.bind_some]
 by_cases h : 0 ≤ q ∧ q ≤ 40
 ·have e : wrap64 (Int.tdiv q 6) = q / 6 := by rw [Int.tdiv_eq_ediv_of_nonneg h.1, wrap_id (by omega) (by omega)]
  have g1 : (0 : Int) ≤ q % 6 := by omega
  have g2 : q % 6 < (([10, 11, 13, 14, 16, 18] : List Int).length : Int) := by simp only [List.length_cons, List.length_nil]; omega
  have g3 : (0 : Int) ≤ q / 6 := by omega
  have hr : rd [10, 11, 13, 14, 16, 18] (q % 6) = stepT (q % 6) := by
   have hq : q % 6 = 0 ∨ q % 6 = 1 ∨ q % 6 = 2 ∨ q % 6 = 3 ∨ q % 6 = 4 ∨ q % 6 = 5 := by omega
   generalize q % 6 = m at hq
   rcases hq with rfl | rfl | rfl | rfl | rfl | rfl <;> rfl
  have hs := stepT_in (q % 6)
  simp only [h, and_self, decide_true, if_true, e, Int.tmod_eq_emod_of_nonneg h.1, g1, g2, g3, hr]
  rw [shl_val (by omega) (by omega)]
 ·simp only [h, decide_false, if_false, Bool.false_eq_true]
theorem condB_in {q : Int} {c d : Bool} (h : condB q c d = true) : 0 ≤ q ∧ q ≤ 40 := by
 unfold condB at h
 exact of_decide_eq_true (Bool.and_eq_true _ _ ▸ h).1
def largeB (x q : Int) : Int := if -5000 ≤ x ∧ x ≤ 5000 then wrap64 (x * stepN q) else 0
def smallB (x q p : Int) : Int := if -5000 ≤ x ∧ x ≤ 5000 then wrap64 (x * scaleN q p) else 0
theorem mul_in {x s a b : Int} (hx : -a ≤ x ∧ x ≤ a) (hs : 0 ≤ s ∧ s ≤ b) (ha : 0 ≤ a) : -(a * b) ≤ x * s ∧ x * s ≤ a * b := by
 have h1 : x * s ≤ a * s := Int.mul_le_mul_of_nonneg_right hx.2 hs.1
 have h2 : a * s ≤ a * b := Int.mul_le_mul_of_nonneg_left hs.2 ha
 have h3 : -a * s ≤ x * s := Int.mul_le_mul_of_nonneg_right hx.1 hs.1
 rw [Int.neg_mul] at h3
 omega
theorem scaleN_in {q : Int} (hq : 0 ≤ q ∧ q ≤ 40) (p : Int) : 0 ≤ scaleN q p ∧ scaleN q p ≤ 1856 := by
 unfold scaleN
 split
 ·have h := scaleT_in (q % 6) (kindN p)
  have e : (q / 6).toNat ≤ 6 := by omega
  have h2 : (1 : Int) ≤ 2 ^ (q / 6).toNat ∧ (2 : Int) ^ (q / 6).toNat ≤ 64 := by
   generalize (q / 6).toNat = n at e
   have : n = 0 ∨ n = 1 ∨ n = 2 ∨ n = 3 ∨ n = 4 ∨ n = 5 ∨ n = 6 := by omega
   rcases this with rfl | rfl | rfl | rfl | rfl | rfl | rfl <;> decide
  have h3 := mul_in (x := scaleT (q % 6) (kindN p)) (s := 2 ^ (q / 6).toNat) (a := 29) (b := 64) (by omega) (by omega) (by omega)
  have h4 : 0 ≤ scaleT (q % 6) (kindN p) * 2 ^ (q / 6).toNat := Int.mul_nonneg (by omega) (by omega)
  omega
 ·omega
theorem smallB_in {q : Int} (hq : 0 ≤ q ∧ q ≤ 40) (x p : Int) : -10000000 ≤ smallB x q p ∧ smallB x q p ≤ 10000000 := by
 unfold smallB
 split
 ·rename_i hx
  have h := mul_in (x := x) (s := scaleN q p) (a := 5000) (b := 1856) (by omega) (scaleN_in hq p) (by omega)
  rw [wrap_id (by omega) (by omega)]
  omega
 ·omega
theorem smallB_ok (l : List Int) (hl : l.length = 16) {q : Int} (hq : 0 ≤ q ∧ q ≤ 40) : FbOk (l.mapIdx (fun i x => smallB x q (i : Int))) := by
 refine ⟨by rw [List.length_mapIdx, hl], allB_iff.2 (fun v hv => ?_)⟩
 obtain ⟨i, hi, rfl⟩ := List.getElem_of_mem hv
 rw [List.getElem_mapIdx]
 exact smallB_in hq _ _
theorem fbv_len16 {m : List Int} (h : FbOk m) : (fbv m).length = 16 := by rw [fbv, if_pos h, settledL_len, turnedL_len, h.1]
def scat (out : List Int) (kk : Nat) (v : List Int) : Nat → List Int
 | 0 => out
 | i + 1 => (scat out kk v i).set (atq kk i) (rd v (i : Int))
theorem scat_len (out : List Int) (kk : Nat) (v : List Int) : ∀ i, (scat out kk v i).length = out.length
 | 0 => rfl
 | i + 1 => by rw [scat, List.length_set, scat_len out kk v i]
def slc (l : List Int) (kk : Nat) : List Int := (l.take (16 * kk + 16)).drop (16 * kk)
theorem slc_len (l : List Int) (hl : l.length = 64) (kk : Nat) (hk : kk < 4) : (slc l kk).length = 16 := by
 unfold slc
 rw [List.length_drop, List.length_take]
 omega
def outb (l : List Int) (q : Int) : Nat → List Int
 | 0 => List.replicate 64 0
 | kk + 1 => scat (outb l q kk) kk (fbv ((unscv 4 (slc l kk)).mapIdx (fun i x => smallB x q (i : Int)))) 16
theorem outb_len (l : List Int) (q : Int) : ∀ k, (outb l q k).length = 64
 | 0 => by simp [outb]
 | k + 1 => by rw [outb, scat_len, outb_len l q k]
def lbN (l : List Int) (q : Int) (c d : Bool) : List Int × Bool :=
 if (l.length = 64 ∧ allB (-5000) 5000 l = true) ∧ condB q c d = true then (if d = true then (unscv 8 l, true) else (if c = true then (ebv ((unscv 8 l).map (largeB · q)), true) else (outb l q 4, true))) else ([], false)
theorem Ev.of_some {α : Type} {x : Option α} {v : α} (h : x = some v) : Ev (fun _ => x) v := by rw [h]; exact Ev.now _
theorem largeback_val {q : Int} (hq : 0 ≤ q ∧ q ≤ 40) (x : Int) : impl_LargeBack.f x q = some (largeB x q) := by
 unfold impl_LargeBack.f largeB
 rw [within_eq, Option.bind_some]
 by_cases c : -5000 ≤ x ∧ x ≤ 5000
 ·rw [if_pos (decide_eq_true c), if_pos c, step_val, Option.bind_some]
 ·rw [if_neg (by simpa using c), if_neg c]
theorem smallback_ev (x q p : Int) : Ev (fun k => impl_SmallBack.f k x q p) (smallB x q p) := by
 unfold impl_SmallBack.f smallB
 simp only [within_eq, Option.bind_some]
 by_cases c : -5000 ≤ x ∧ x ≤ 5000
 ·rw [if_pos c]
  simp only [decide_eq_true c, if_true]
  exact Ev.bind (scale_ev q p) (Ev.now _)
 ·rw [if_neg c]
  simp only [decide_eq_false c, Bool.false_eq_true, if_false]
  exact Ev.now _
theorem back_large (l : List Int) (hl : l.length = 64) (a : Bool) (q : Int) (hq : 0 ≤ q ∧ q ≤ 40) (c d : Bool) : Ev (fun k => impl_LevelsBack.l0 k l 64 0 a q c d) (ebv (l.map (largeB · q)), true) := by
 obtain ⟨m, hm⟩ : ∃ m, m = l.map (largeB · q) := ⟨_, rfl⟩
 have lm : m.length = 64 := by rw [hm, List.length_map, hl]
 rw [← hm]
 have H : ∀ i, i ≤ 64 → Ev (fun k => impl_LevelsBack.l0 k (m.take i ++ l.drop i) 64 (i : Int) a q c d) (ebv m, true) := by
  refine down 64 ?_ ?_
  ·have e : m.take 64 ++ l.drop 64 = m := by rw [List.take_of_length_le (by omega), List.drop_eq_nil_of_le (by omega), List.append_nil]
   refine Ev.step (f := fun k => (impl_EightBack.f k m).bind fun t => (some (t, true))) (fun k => ?_) (Ev.bind (eightback_ev m (by omega)) (Ev.now _))
   simp only [impl_LevelsBack.l0]
   rw [if_neg (by omega), e]
  ·intro i hi h
   have hr := mix_rd m l i (by omega) (by omega)
   have hlen := mix_length m l i (by omega) (by omega)
   have hset := mix_set m l i (by omega) (by omega)
   have hv : m[i]'(by omega) = largeB (l[i]'(by omega)) q := by simp [hm]
   rw [hv] at hset
   refine Ev.step (f := fun k => (impl_LargeBack.f (l[i]'(by omega)) q).bind fun t => impl_LevelsBack.l0 k ((m.take i ++ l.drop i).set i t) 64 ((i : Int) + 1) a q c d) (fun k => ?_) (Ev.bind (Ev.of_some (largeback_val hq _)) ?_)
   ·simp only [impl_LevelsBack.l0]
    rw [if_pos (by omega), if_pos (by omega), if_pos (by rw [hlen]; omega), hr, Int.toNat_natCast, wrap_id (x := (i : Int) + 1) (by omega) (by omega)]
   ·rw [hset]
    exact h
 have h0 := H 0 (by omega)
 exact h0
theorem back_scat (x0 out v : List Int) (kk : Nat) (hk : kk < 4) (ho : out.length = 64) (hv : v.length = 16) (a : Bool) (q : Int) (c d : Bool) (R : List Int × Bool)
  (h : Ev (fun k => impl_LevelsBack.l1 k x0 (scat out kk v 16) ((kk + 1 : Nat) : Int) a q c d) R) : Ev (fun k => impl_LevelsBack.l3 k x0 out v (kk : Int) (qL kk) 16 0 a q c d) R := by
 have H : ∀ i, i ≤ 16 → Ev (fun k => impl_LevelsBack.l3 k x0 (scat out kk v i) v (kk : Int) (qL kk) 16 (i : Int) a q c d) R := by
  refine down 16 ?_ ?_
  ·refine Ev.step (fun k => ?_) h
   simp only [impl_LevelsBack.l3]
   rw [if_neg (by omega), wrap_id (x := (kk : Int) + 1) (by omega) (by omega), cast1]
  ·intro i hi h1
   have hq := qL_rd kk i hi
   have hat := atq_lt kk i hk hi
   refine Ev.step (fun k => ?_) h1
   simp only [impl_LevelsBack.l3]
   rw [if_pos (by omega), if_pos (by omega), if_pos (by rw [qL_len]; omega), if_pos (by omega), hq, if_pos (by omega), if_pos (by rw [scat_len, ho]; omega), Int.toNat_natCast, wrap_id (x := (i : Int) + 1) (by omega) (by omega), cast1]
   rfl
 exact H 0 (by omega)
theorem back_small (x0 out : List Int) (kk : Nat) (hk : kk < 4) (ho : out.length = 64) (l : List Int) (hl : l.length = 16) (a : Bool) (q : Int) (hq : 0 ≤ q ∧ q ≤ 40) (c d : Bool) (R : List Int × Bool)
  (h : Ev (fun k => impl_LevelsBack.l1 k x0 (scat out kk (fbv (l.mapIdx (fun i x => smallB x q (i : Int)))) 16) ((kk + 1 : Nat) : Int) a q c d) R) : Ev (fun k => impl_LevelsBack.l2 k x0 out (kk : Int) l (kk : Int) 16 0 a q c d) R := by
 have hok := smallB_ok l hl hq
 obtain ⟨m, hm⟩ : ∃ m, m = l.mapIdx (fun i x => smallB x q (i : Int)) := ⟨_, rfl⟩
 have lm : m.length = 16 := by rw [hm, List.length_mapIdx, hl]
 rw [← hm] at h hok
 have H : ∀ i, i ≤ 16 → Ev (fun k => impl_LevelsBack.l2 k x0 out (kk : Int) (m.take i ++ l.drop i) (kk : Int) 16 (i : Int) a q c d) R := by
  refine down 16 ?_ ?_
  ·have e : m.take 16 ++ l.drop 16 = m := by rw [List.take_of_length_le (by omega), List.drop_eq_nil_of_le (by omega), List.append_nil]
   have hF : ((fbv m).length : Nat) = 16 := fbv_len16 hok
   refine Ev.step (f := fun k => (impl_FourBack.f k m).bind fun t => ((impl_quarter.f k (kk : Int)).bind fun u => (impl_LevelsBack.l3 k x0 out t (kk : Int) u (u.length : Int) 0 a q c d))) (fun k => ?_) (Ev.bind (fourback_ev m (by omega)) (Ev.bind (quarter_ev kk hk) ?_))
   ·simp only [impl_LevelsBack.l2]
    rw [if_neg (by omega), e]
   ·rw [qL_len]
    exact back_scat x0 out (fbv m) kk hk ho hF a q c d R h
  ·intro i hi h1
   have hr := mix_rd m l i (by omega) (by omega)
   have hlen := mix_length m l i (by omega) (by omega)
   have hset := mix_set m l i (by omega) (by omega)
   have hv : m[i]'(by omega) = smallB (l[i]'(by omega)) q (i : Int) := by simp [hm]
   rw [hv] at hset
   refine Ev.step (f := fun k => (impl_SmallBack.f k (l[i]'(by omega)) q (i : Int)).bind fun t => impl_LevelsBack.l2 k x0 out (kk : Int) ((m.take i ++ l.drop i).set i t) (kk : Int) 16 ((i : Int) + 1) a q c d) (fun k => ?_) (Ev.bind (smallback_ev _ q _) ?_)
   ·simp only [impl_LevelsBack.l2]
    rw [if_pos (by omega), if_pos (by omega), if_pos (by rw [hlen]; omega), hr, Int.toNat_natCast, wrap_id (x := (i : Int) + 1) (by omega) (by omega)]
   ·rw [hset]
    exact h1
 have h0 := H 0 (by omega)
 exact h0
theorem back_rounds (l : List Int) (hl : l.length = 64) (a : Bool) (q : Int) (hq : 0 ≤ q ∧ q ≤ 40) (c d : Bool) : Ev (fun k => impl_LevelsBack.l1 k l (List.replicate 64 0) 0 a q c d) (outb l q 4, true) := by
 have H : ∀ kk, kk ≤ 4 → Ev (fun k => impl_LevelsBack.l1 k l (outb l q kk) (kk : Int) a q c d) (outb l q 4, true) := by
  refine down 4 ?_ ?_
  ·exact Ev.step (f := fun _ => some (outb l q 4, true)) (fun k => by simp only [impl_LevelsBack.l1]; rw [if_neg (by omega)]) (Ev.now _)
  ·intro kk hk h
   have lz := slc_len l hl kk hk
   have h3 := back_small l (outb l q kk) kk hk (outb_len l q kk) (unscv 4 (slc l kk)) (by rw [unscv_len, lz]) a q hq c d _ h
   have hs := unscanned_ev 4 (slc l kk)
   rw [if_pos (show ScOk 4 (slc l kk) from Or.inl ⟨rfl, lz⟩)] at hs
   have e1 : wrap64 (16 * (kk : Int)) = ((16 * kk : Nat) : Int) := by rw [wrap_id (by omega) (by omega)]; omega
   have e2 : wrap64 (((16 * kk : Nat) : Int) + 16) = ((16 * kk + 16 : Nat) : Int) := by rw [wrap_id (by omega) (by omega)]; omega
   refine Ev.step (f := fun k => (impl_Unscanned.f k 4 (slc l kk)).bind fun bt => (impl_LevelsBack.l2 k l (outb l q kk) (kk : Int) bt.1 (kk : Int) (bt.1.length : Int) 0 a q c d)) (fun k => ?_) (Ev.bind hs ?_)
   ·simp only [impl_LevelsBack.l1, e1, e2]
    rw [if_pos (by omega), if_pos (by omega), if_pos (by omega), if_pos (by omega), Int.toNat_natCast, Int.toNat_natCast]
    rfl
   ·rw [show ((unscv 4 (slc l kk)).length : Int) = 16 from by rw [unscv_len, lz]; rfl]
    exact h3
 exact H 0 (by omega)
theorem levelsback_ev (l : List Int) (hl : l.length ≤ 17592186043904) (a : Bool) (q : Int) (c d : Bool) : Ev (fun k => impl_LevelsBack.f k l a q c d) (lbN l q c d) := by
 have hbad : Ev (fun k => impl_LevelsBack.j0 k l true a q c d) ([], false) := Ev.step (f := fun _ => some ([], false)) (fun k => by simp only [impl_LevelsBack.j0]; rfl) (Ev.now _)
 unfold impl_LevelsBack.f lbN
 have hA : Ev (fun k => impl_areLevels.f k l) (decide ((l.length : Int) = 64) && allB (-5000) 5000 l) := by
  unfold impl_areLevels.f
  exact Ev.bind (areIn_ev l 64 (-5000) 5000 hl) (Ev.now _)
 refine Ev.bind hA ?_
 rw [len_dec4 l 64 64 rfl]
 by_cases h0 : l.length = 64 ∧ allB (-5000) 5000 l = true
 ·rw [decide_eq_true h0.1, h0.2]
  simp only [Bool.and_self, if_true, cond_val, Option.bind_some]
  cases hc : condB q c d with
  | false =>
   rw [if_neg (fun h => by cases h.2)]
   exact hbad
  | true =>
   rw [if_pos ⟨⟨h0.1, trivial⟩, rfl⟩]
   have hq := condB_in hc
   have hs := unscanned_ev 8 l
   rw [if_pos (show ScOk 8 l from Or.inr ⟨rfl, h0.1⟩)] at hs
   cases d with
   | true =>
    refine Ev.step (fun k => by simp only [impl_LevelsBack.j0, Bool.and_self, Bool.not_true, Bool.false_eq_true, if_false, if_true]; rfl) (Ev.bind hs ?_)
    simp only [if_true]; exact Ev.now _
   | false =>
    cases c with
    | true =>
     have hu : (unscv 8 l).length = 64 := by rw [unscv_len, h0.1]
     refine Ev.step (fun k => by simp only [impl_LevelsBack.j0, Bool.and_self, Bool.not_true, Bool.false_eq_true, if_false, if_true]; rfl) (Ev.bind hs ?_)
     rw [show ((unscv 8 l).length : Int) = 64 from by rw [hu]; rfl]
     exact back_large _ hu a q hq true false
    | false =>
     have g : (64 : Nat) ≤ 35184372088832 := by omega
     refine Ev.step (fun k => by simp only [impl_LevelsBack.j0, Bool.and_self, Bool.not_true, Bool.false_eq_true, if_false, g, if_true]) (back_rounds l h0.1 a q hq false false)
 ·rw [and_false4 h0, if_neg (fun h => h0 h.1)]
  simp only [Bool.false_eq_true, if_false]
  exact hbad
theorem largeB_in {q : Int} (hq : 0 ≤ q ∧ q ≤ 40) (x : Int) : -10000000 ≤ largeB x q ∧ largeB x q ≤ 10000000 := by
 unfold largeB
 split
 ·rename_i hx
  have hs := stepN_in hq
  have h := mul_in (x := x) (s := stepN q) (a := 5000) (b := 1152) (by omega) (by omega) (by omega)
  rw [wrap_id (by omega) (by omega)]
  omega
 ·omega
theorem lbN_well {l : List Int} (hl : l.length = 64) (hb : allB (-5000) 5000 l = true) {q : Int} {c d : Bool} (h : condB q c d = true) : ∃ y : List Int, lbN l q c d = (y, true) ∧ y.length = 64 := by
 have hq := condB_in h
 unfold lbN
 rw [if_pos ⟨⟨hl, hb⟩, h⟩]
 cases d with
 | true => exact ⟨_, if_pos rfl, by rw [unscv_len, hl]⟩
 | false =>
  rw [if_neg (by decide)]
  cases c with
  | true =>
   refine ⟨_, if_pos rfl, ?_⟩
   have ho : EbOk ((unscv 8 l).map (largeB · q)) := ⟨by rw [List.length_map, unscv_len, hl], allB_iff.2 fun v hv => by
    obtain ⟨w, _, rfl⟩ := List.mem_map.1 hv
    exact largeB_in hq w⟩
   unfold ebv
   rw [if_pos ho, settledL_len, sumsv_len]
  | false => exact ⟨_, if_neg (by decide), outb_len l q 4⟩
theorem byte_at (b : List Int) (hb : b.length ≤ 140737488351232) (i h : Int) (h0 : 0 ≤ i) (h1 : i ≤ (b.length : Int)) :
  ∃ x i' h', spec_l01Byte.f b i h = some (x, i', h') ∧ 0 ≤ x ∧ x ≤ 255 ∧ 0 ≤ i' ∧ i' ≤ (b.length : Int) := by
 unfold spec_l01Byte.f
 by_cases c : i < (b.length : Int)
 ·rw [if_pos c, if_pos h0]
  exact ⟨_, _, _, rfl, (and_le _ 255 (by decide)).1, (and_le _ 255 (by decide)).2, by rw [wrap_id (by omega) (by omega)]; omega, by rw [wrap_id (by omega) (by omega)]; omega⟩
 ·rw [if_neg c]
  exact ⟨_, _, _, rfl, (and_le _ 255 (by decide)).1, (and_le _ 255 (by decide)).2, h0, h1⟩
theorem below_at (b : List Int) (hb : b.length ≤ 140737488351232) (i h n : Int) (h0 : 0 ≤ i) (h1 : i ≤ (b.length : Int)) (hn : 0 < n) :
  ∃ x i' h', spec_l01Below.f b i h n = some (x, i', h') ∧ 0 ≤ x ∧ x < n ∧ 0 ≤ i' ∧ i' ≤ (b.length : Int) := by
 unfold spec_l01Below.f
 rw [if_neg (by omega)]
 obtain ⟨x, i1, s1, e1, x0, x1, p1, q1⟩ := byte_at b hb i h h0 h1
 by_cases c : n ≤ 256
 ·rw [if_pos c, e1, Option.bind_some, if_neg (by omega)]
  exact ⟨_, _, _, rfl, by simp only [Int.tmod_eq_emod_of_nonneg x0]; exact Int.emod_nonneg _ (by omega), by simp only [Int.tmod_eq_emod_of_nonneg x0]; exact Int.emod_lt_of_pos _ hn, p1, q1⟩
 ·obtain ⟨y, i2, s2, e2, y0, y1, p2, q2⟩ := byte_at b hb i1 s1 p1 q1
  obtain ⟨z, i3, s3, e3, z0, z1, p3, q3⟩ := byte_at b hb i2 s2 p2 q2
  obtain ⟨w, i4, s4, e4, w0, w1, p4, q4⟩ := byte_at b hb i3 s3 p3 q3
  rw [if_neg c, e1, Option.bind_some]
  simp only []
  rw [e2, Option.bind_some]
  simp only []
  rw [e3, Option.bind_some]
  simp only []
  rw [e4, Option.bind_some, if_neg (by omega)]
  have hs : wrap64 (wrap64 (wrap64 (wrap64 (x * 16777216) + wrap64 (y * 65536)) + wrap64 (z * 256)) + w) = x * 16777216 + y * 65536 + z * 256 + w := by
   rw [wrap_id (x := x * 16777216) (by omega) (by omega), wrap_id (x := y * 65536) (by omega) (by omega), wrap_id (x := z * 256) (by omega) (by omega), wrap_id (x := x * 16777216 + y * 65536) (by omega) (by omega), wrap_id (x := x * 16777216 + y * 65536 + z * 256) (by omega) (by omega), wrap_id (by omega) (by omega)]
  refine ⟨_, _, _, rfl, ?_, ?_, p4, q4⟩
  ·simp only [hs]; rw [Int.tmod_eq_emod_of_nonneg (by omega)]; exact Int.emod_nonneg _ (by omega)
  ·simp only [hs]; rw [Int.tmod_eq_emod_of_nonneg (by omega)]; exact Int.emod_lt_of_pos _ hn
theorem new_loop (l : List Int) (hl : l.length ≤ 140737488351232) (d : Nat) : ∀ h i : Int, 0 ≤ i → (l.length : Int) - i = d → ∃ h', Ev (fun k => spec_l01New.l0 k l h i) (l, 0, h') := by
 induction d with
 | zero =>
  intro h i h0 hd
  exact ⟨h, Ev.step (f := fun _ => some (l, 0, h)) (fun k => by simp only [spec_l01New.l0]; rw [if_neg (by omega)]) (Ev.now _)⟩
 | succ d ih =>
  intro h i h0 hd
  by_cases c : i < 4000
  ·obtain ⟨h', e⟩ := ih (Go.bits .and .i64 (wrap64 ((wrap64 ((wrap64 (h * 131)) + (wrap64 (rd l i)))) + 7)) 1073741823) (i + 1) (by omega) (by omega)
   refine ⟨h', Ev.step (fun k => ?_) e⟩
   simp only [spec_l01New.l0]
   rw [if_pos (by omega), if_pos c, if_pos h0, wrap_id (x := i + 1) (by omega) (by omega)]
  ·exact ⟨h, Ev.step (f := fun _ => some (l, 0, h)) (fun k => by simp only [spec_l01New.l0]; rw [if_pos (by omega), if_neg c]) (Ev.now _)⟩
theorem new_ev (l : List Int) (hl : l.length ≤ 140737488351232) : ∃ h, Ev (fun k => spec_l01New.f k l) (l, 0, h) := by
 obtain ⟨h, e⟩ := new_loop l hl l.length (wrap64 (94701 + (l.length : Int))) 0 (by omega) (by omega)
 exact ⟨h, e⟩
theorem l02_loop (b : List Int) (hb : b.length ≤ 140737488351232) (n : Int) (hn : n ≤ 60) (d : Nat) : ∀ (out : List Int) (i p h : Int), 0 ≤ i → n - i = (d : Int) → (out.length : Int) = i → (∀ y ∈ out, y = 48 ∨ y = 49) → 0 ≤ p → p ≤ (b.length : Int) →
  ∃ L p' h', Ev (fun k => spec_l02Signs.l0 k n out i b p h) (strOfNums L, p', h') ∧ L.length ≤ 60 ∧ ∀ y ∈ L, y = 48 ∨ y = 49 := by
 induction d with
 | zero =>
  intro out i p h hi hd ho hx h0 h1
  exact ⟨out, p, h, Ev.step (f := fun _ => some (strOfNums out, p, h)) (fun k => by simp only [spec_l02Signs.l0]; rw [if_neg (by omega)]) (Ev.now _), by omega, hx⟩
 | succ d ih =>
  intro out i p h hi hd ho hx h0 h1
  obtain ⟨x, p1, h1', e, x0, x1, a0, a1⟩ := below_at b hb p h 2 h0 h1 (by omega)
  have w : wrap64 (48 + x) % 256 = 48 + x := by rw [wrap_id (by omega) (by omega)]; omega
  obtain ⟨L, p', h', el, hl, hm⟩ := ih (out ++ [48 + x]) (i + 1) p1 h1' (by omega) (by omega) (by rw [List.length_append]; simp; omega) (by
   intro y hy
   rcases List.mem_append.1 hy with hy | hy
   ·exact hx y hy
   ·simp at hy; omega) a0 a1
  refine ⟨L, p', h', Ev.step (fun k => ?_) el, hl, hm⟩
  simp only [spec_l02Signs.l0]
  rw [if_pos (by omega), e, Option.bind_some, if_pos (by omega), w, wrap_id (x := i + 1) (by omega) (by omega)]
theorem drawrow_ev (l : List Int) (hl : l.length ≤ 140737488351232) : ∃ L, Ev (fun k => spec_DrawRow.f k l) (strOfNums L) ∧ L.length ≤ 60 ∧ ∀ y ∈ L, y = 48 ∨ y = 49 := by
 obtain ⟨h, e⟩ := new_ev l hl
 obtain ⟨n, p1, h1', e1, x0, x1, a0, a1⟩ := below_at l hl 0 h 61 (by omega) (by omega) (by omega)
 obtain ⟨L, p', h', el, h2, hm⟩ := l02_loop l hl n (by omega) n.toNat [] 0 p1 h1' (by omega) (by omega) rfl (by simp) a0 a1
 refine ⟨L, ?_, h2, hm⟩
 unfold spec_DrawRow.f
 refine Ev.bind e ?_
 simp only [e1, Option.bind_some]
 exact Ev.bind (a := (strOfNums L, p', h')) el (Ev.now _)
theorem once_at (b : List Int) (hb : b.length ≤ 140737488351232) (i h n : Int) (h0 : 0 ≤ i) (h1 : i ≤ (b.length : Int)) (hn : 0 < n) :
  ∃ x i' h', spec_l01Once.f b i h n = some (x, i', h') ∧ 0 ≤ i' ∧ i' ≤ (b.length : Int) := by
 obtain ⟨x, i', h', e, _, _, p, q⟩ := below_at b hb i h n h0 h1 hn
 exact ⟨_, _, _, by unfold spec_l01Once.f; rw [e]; rfl, p, q⟩
def LevL (n : Nat) (l : List Int) : Prop := l.length = n ∧ ∀ x ∈ l, -5000 ≤ x ∧ x ≤ 5000
theorem levL_set {n : Nat} {l : List Int} (h : LevL n l) (i : Nat) {v : Int} (hv : -5000 ≤ v ∧ v ≤ 5000) : LevL n (l.set i v) :=
 ⟨by rw [List.length_set]; exact h.1, fun x hx => by
  rcases List.mem_or_eq_of_mem_set hx with h1 | h1
  ·exact h.2 x h1
  ·subst h1; exact hv⟩
theorem lev_j2 (b : List Int) (hb : b.length ≤ 140737488351232) (n : Nat) (hn : n = 16 ∨ n = 64) (out : List Int) (ho : LevL n out) (i x : Int) (hx : 0 ≤ x) (hx1 : x < (n : Int)) (p h : Int) (h0 : 0 ≤ p) (h1 : p ≤ (b.length : Int))
  (hh : ∀ out' : List Int, LevL n out' → ∀ p' h' : Int, 0 ≤ p' → p' ≤ (b.length : Int) → ∃ r p'' h'', Ev (fun k => spec_l11Levels.l0 k (n : Int) out' (wrap64 (i + 1)) b p' h') (r, p'', h'') ∧ LevL n r ∧ 0 ≤ p'' ∧ p'' ≤ (b.length : Int)) :
  ∃ r p'' h'', Ev (fun k => spec_l11Levels.j2 k (n : Int) out i x b p h) (r, p'', h'') ∧ LevL n r ∧ 0 ≤ p'' ∧ p'' ≤ (b.length : Int) := by
 obtain ⟨y, p1, h1', e1, y0, y1, a0, a1⟩ := below_at b hb p h 21 h0 h1 (by omega)
 have wy : -5000 ≤ wrap64 (y - 10) ∧ wrap64 (y - 10) ≤ 5000 := by rw [wrap_id (by omega) (by omega)]; omega
 obtain ⟨z, p2, h2', e2, b0, b1⟩ := once_at b hb p1 h1' 6 a0 a1 (by omega)
 cases z with
 | true =>
  obtain ⟨u, p3, h3', e3, u0, u1, c0, c1⟩ := below_at b hb p2 h2' 10001 b0 b1 (by omega)
  have wu : -5000 ≤ wrap64 (u - 5000) ∧ wrap64 (u - 5000) ≤ 5000 := by rw [wrap_id (by omega) (by omega)]; omega
  obtain ⟨r, p'', h'', er, lr⟩ := hh ((out.set x.toNat (wrap64 (y - 10))).set x.toNat (wrap64 (u - 5000))) (levL_set (levL_set ho _ wy) _ wu) p3 h3' c0 c1
  refine ⟨r, p'', h'', Ev.step (fun k => ?_) er, lr⟩
  simp only [spec_l11Levels.j2]
  rw [e1, Option.bind_some, if_pos hx, if_pos (by have := ho.1; omega), Option.bind_some, e2, Option.bind_some, if_pos rfl, e3, Option.bind_some]
 | false =>
  obtain ⟨r, p'', h'', er, lr⟩ := hh (out.set x.toNat (wrap64 (y - 10))) (levL_set ho _ wy) p2 h2' b0 b1
  refine ⟨r, p'', h'', Ev.step (fun k => ?_) er, lr⟩
  simp only [spec_l11Levels.j2]
  rw [e1, Option.bind_some, if_pos hx, if_pos (by have := ho.1; omega), Option.bind_some, e2, Option.bind_some, if_neg (by simp)]
theorem lev_l0 (b : List Int) (hb : b.length ≤ 140737488351232) (n : Nat) (hn : n = 16 ∨ n = 64) (d : Nat) : ∀ (i : Int), 0 ≤ i → 7 - i ≤ (d : Int) → i ≤ 7 → ∀ out' : List Int, LevL n out' → ∀ p' h' : Int, 0 ≤ p' → p' ≤ (b.length : Int) → ∃ r p'' h'', Ev (fun k => spec_l11Levels.l0 k (n : Int) out' i b p' h') (r, p'', h'') ∧ LevL n r ∧ 0 ≤ p'' ∧ p'' ≤ (b.length : Int) := by
 induction d with
 | zero =>
  intro i hi hd hi7 out ho p h h0 h1
  obtain ⟨x, p1, h1', e1, x0, x1, a0, a1⟩ := below_at b hb p h 7 h0 h1 (by omega)
  have hj : Ev (fun k => spec_l11Levels.j1 k (n : Int) out i false b p1 h1') (out, p1, h1') := Ev.step (f := fun _ => some (out, p1, h1')) (fun k => by simp only [spec_l11Levels.j1]; rfl) (Ev.now _)
  refine ⟨out, p1, h1', Ev.step (fun k => ?_) hj, ho, a0, a1⟩
  simp only [spec_l11Levels.l0]
  rw [e1, Option.bind_some, if_neg (by omega)]
 | succ d ih =>
  intro i hi hd hi7 out ho p h h0 h1
  obtain ⟨x, p1, h1', e1, x0, x1, a0, a1⟩ := below_at b hb p h 7 h0 h1 (by omega)
  by_cases c : i < x
  ·obtain ⟨y, p2, h2', e2, y0, y1, b0, b1⟩ := below_at b hb p1 h1' (n : Int) a0 a1 (by omega)
   obtain ⟨z, p3, h3', e3, c0, c1⟩ := once_at b hb p2 h2' 2 b0 b1 (by omega)
   have w : wrap64 (i + 1) = i + 1 := wrap_id (by omega) (by omega)
   have hh := ih (i + 1) (by clear w; omega) (by clear w; omega) (by clear w; omega)
   rw [← w] at hh
   have hd' : decide ((n : Int) > 0) = true := decide_eq_true (by clear w; omega)
   have ht : Int.tmod y 5 = y % 5 := Int.tmod_eq_emod_of_nonneg y0
   cases z with
   | true =>
    obtain ⟨r, p'', h'', er, lr⟩ := lev_j2 b hb n hn out ho i (y % 5) (by clear w ht; omega) (by clear w ht; omega) p3 h3' c0 c1 hh
    refine ⟨r, p'', h'', Ev.step (f := fun k => spec_l11Levels.j1 k (n : Int) out i true b p1 h1') (fun k => ?_) (Ev.step (fun k => ?_) er), lr⟩
    ·simp only [spec_l11Levels.l0]
     rw [e1, Option.bind_some, if_pos c, hd']
    ·simp only [spec_l11Levels.j1]
     rw [if_pos trivial, e2, Option.bind_some, e3, Option.bind_some, if_pos rfl, ht]
   | false =>
    obtain ⟨r, p'', h'', er, lr⟩ := lev_j2 b hb n hn out ho i y y0 y1 p3 h3' c0 c1 hh
    refine ⟨r, p'', h'', Ev.step (f := fun k => spec_l11Levels.j1 k (n : Int) out i true b p1 h1') (fun k => ?_) (Ev.step (fun k => ?_) er), lr⟩
    ·simp only [spec_l11Levels.l0]
     rw [e1, Option.bind_some, if_pos c, hd']
    ·simp only [spec_l11Levels.j1]
     rw [if_pos trivial, e2, Option.bind_some, e3, Option.bind_some, if_neg (by simp)]
  ·have hj : Ev (fun k => spec_l11Levels.j1 k (n : Int) out i false b p1 h1') (out, p1, h1') := Ev.step (f := fun _ => some (out, p1, h1')) (fun k => by simp only [spec_l11Levels.j1]; rfl) (Ev.now _)
   refine ⟨out, p1, h1', Ev.step (fun k => ?_) hj, ho, a0, a1⟩
   simp only [spec_l11Levels.l0]
   rw [e1, Option.bind_some, if_neg c]
theorem drawlev_ev (l : List Int) (hl : l.length ≤ 140737488351232) (n : Nat) (hn : n = 16 ∨ n = 64) : ∃ r, Ev (fun k => spec_DrawLevels.f k l (n : Int)) r ∧ LevL n r := by
 obtain ⟨h, e⟩ := new_ev l hl
 obtain ⟨r, p', h', er, lr, _, _⟩ := lev_l0 l hl n hn 7 0 (by omega) (by omega) (by omega) (List.replicate n 0) ⟨by simp, fun x hx => by have := List.eq_of_mem_replicate hx; omega⟩ 0 h (by omega) (by omega)
 refine ⟨r, ?_, lr⟩
 unfold spec_DrawLevels.f
 refine Ev.bind e (Ev.bind (a := (r, p', h')) ?_ (Ev.now _))
 unfold spec_l11Levels.f
 refine Ev.congr (fun k => ?_) er
 rw [if_pos (by omega), if_pos (by omega)]; rfl
theorem par_at (b : List Int) (hb : b.length ≤ 140737488351232) (p h : Int) (h0 : 0 ≤ p) (h1 : p ≤ (b.length : Int)) :
  ∃ q l e z p' h', spec_l05ParRight.f b p h = some (q, l, e, z, p', h') ∧ condB q l e = true ∧ 0 ≤ p' ∧ p' ≤ (b.length : Int) := by
 obtain ⟨x, p1, h1', e1, x0, x1, a0, a1⟩ := below_at b hb p h 41 h0 h1 (by omega)
 obtain ⟨y, p2, h2', e2, b0, b1⟩ := once_at b hb p1 h1' 4 a0 a1 (by omega)
 obtain ⟨z, p3, h3', e3, z0, z1, c0, c1⟩ := below_at b hb p2 h2' 3 b0 b1 (by omega)
 have hc : ∀ l e : Bool, (l && e) = false → condB x l e = true := by
  intro l e h
  unfold condB
  rw [decide_eq_true (by omega), h]
  rfl
 unfold spec_l05ParRight.f
 simp only [e1, e2, e3, Option.bind_some]
 by_cases d0 : z = 0
 ·simp only [d0, if_true]; exact ⟨_, _, _, _, _, _, rfl, hc _ _ rfl, c0, c1⟩
 ·by_cases d1 : z = 1
  ·simp only [d1, if_true]; exact ⟨_, _, _, _, _, _, rfl, hc _ _ rfl, c0, c1⟩
  ·simp only [d0, d1, if_false]; exact ⟨_, _, _, _, _, _, rfl, hc _ _ rfl, c0, c1⟩
theorem cond_at (b : List Int) (hb : b.length ≤ 140737488351232) (p h : Int) (h0 : 0 ≤ p) (h1 : p ≤ (b.length : Int)) :
  ∃ a q l e p' h', spec_l14Cond.f b p h = some (a, q, l, e, p', h') ∧ condB q l e = true ∧ 0 ≤ p' ∧ p' ≤ (b.length : Int) := by
 obtain ⟨q, l, e, z, p1, h1', e1, hc, a0, a1⟩ := par_at b hb p h h0 h1
 obtain ⟨y, p2, h2', e2, b0, b1⟩ := once_at b hb p1 h1' 2 a0 a1 (by omega)
 unfold spec_l14Cond.f
 simp only [e1, e2, Option.bind_some]
 exact ⟨_, _, _, _, _, _, rfl, hc, b0, b1⟩
theorem drawcond_ev (l : List Int) (hl : l.length ≤ 140737488351232) : ∃ a q d e, Ev (fun k => spec_DrawCond.f k l) (a, q, d, e) ∧ condB q d e = true := by
 obtain ⟨h, en⟩ := new_ev l hl
 obtain ⟨a, q, d, e, p', h', ec, hc, _, _⟩ := cond_at l hl 0 h (by omega) (by omega)
 refine ⟨a, q, d, e, ?_, hc⟩
 unfold spec_DrawCond.f
 refine Ev.bind en ?_
 simp only [ec, Option.bind_some]
 exact Ev.now _
theorem same_ev (a b : List Int) (ha : a.length ≤ 17592186043904) : Ev (fun k => laws_sameInts.f k a b) (decide (a = b)) := by
 by_cases hl : a.length = b.length
 ·have H : ∀ i, i ≤ a.length → Ev (fun k => laws_sameInts.l0 k a b (i : Int)) (decide (a.drop i = b.drop i)) := by
   refine down a.length ?_ ?_
   ·refine Ev.step (f := fun _ => some true) (fun k => ?_) ?_
    ·simp only [laws_sameInts.l0]
     rw [if_neg (by omega)]
    ·rw [show decide (a.drop a.length = b.drop a.length) = true by rw [hl]; simp [← hl]]; exact Ev.now _
   ·intro i hi h
    have hb : i < b.length := by omega
    by_cases c : a[i] = b[i]
    ·have e : decide (a.drop i = b.drop i) = decide (a.drop (i + 1) = b.drop (i + 1)) := by
      rw [decide_eq_decide, drop_cons hi, drop_cons hb, c, List.cons.injEq]; simp only [true_and]
     rw [e]
     refine Ev.step (fun k => ?_) h
     simp only [laws_sameInts.l0]
     rw [if_pos (by omega), if_pos (by omega), if_pos (by omega), rd_nat a i hi, rd_nat b i hb, if_pos c, wrap_id (by omega) (by omega), cast1]
    ·have e : decide (a.drop i = b.drop i) = false := by
      rw [decide_eq_false_iff_not, drop_cons hi, drop_cons hb, List.cons.injEq]; exact fun h => c h.1
     rw [e]
     refine Ev.step (f := fun _ => some false) (fun k => ?_) (Ev.now _)
     simp only [laws_sameInts.l0]
     rw [if_pos (by omega), if_pos (by omega), if_pos (by omega), rd_nat a i hi, rd_nat b i hb, if_neg c]
  have h0 := H 0 (by omega)
  unfold laws_sameInts.f
  refine Ev.congr (fun k => ?_) h0
  rw [if_pos (by omega)]; rfl
 ·unfold laws_sameInts.f
  rw [show decide (a = b) = false from decide_eq_false (fun h => hl (by rw [h]))]
  refine Ev.congr (f := fun _ => some false) (fun k => ?_) (Ev.now _)
  rw [if_neg (by omega)]
theorem sameSelf_ev (a : List Int) (ha : a.length ≤ 17592186043904) : Ev (fun k => laws_sameInts.f k a a) true := by
 have h := same_ev a a ha
 rwa [decide_eq_true rfl] at h
theorem lrL_len {l : List Int} (h : l.length = 64) (large ex : Bool) : (lrL l large ex).length ≤ 20000 := by
 unfold lrL
 split
 ·have := runsL_len l
  omega
 ·exact qrows_len h 4 (by omega)
theorem levV_back {L : List Int} (hL : ∀ y ∈ L, y = 48 ∨ y = 49) (hl : L.length ≤ 400000) {x : List Int} (hx : LevL 64 x) (q : Int) (large ex : Bool) (hc : condB q large ex = true) (A B : List Int) (e : L = A ++ (lrL x large ex ++ B)) :
  levV (strOfNums L) (A.length : Int) q large ex = (x, ((A.length + (lrL x large ex).length : Nat) : Int), true) := by
 have hrow := rowB_str hL hl
 have hopen : openB (strOfNums L) (A.length : Int) = true := by
  unfold openB
  rw [hrow, strOfNums_size, Bool.true_and, decide_eq_true_eq, e, List.length_append]
  omega
 have ha := (at_append _ _ _ (at_str hL (lrL x large ex ++ B) A e)).1
 unfold levV
 rw [if_pos ⟨hopen, hc⟩, Int.toNat_natCast, levels_back large ex hx.1 hx.2 ha]
 rfl
theorem FnLevelRows : laws_FnLevelRows.Pure := by
 intro l _ hl _
 refine Ev.rounds ?_
 unfold laws_FnLevelRows.f laws_big.f
 simp only [Option.bind_some]
 by_cases c : (l.length : Int) > 1048576
 ·simp only [c, decide_true, if_true]; exact Ev.now _
 ·simp only [c, decide_false, Bool.false_eq_true, if_false]
  obtain ⟨x, ex, hx⟩ := drawlev_ev l (by omega) 64 (.inr rfl)
  obtain ⟨a, q, large, ext, ec, hc⟩ := drawcond_ev l (by omega)
  obtain ⟨A, eA, hA, mA⟩ := drawrow_ev l (by omega)
  have hxb := levB_iff.2 ⟨hx.1, allB_iff.2 hx.2⟩
  have eR := levelsrow_ev x a q large ext (by have := hx.1; omega)
  unfold lrv at eR
  rw [hxb, hc, Bool.and_self, if_pos rfl] at eR
  have ln := lrL_len hx.1 large ext
  have mW : ∀ y ∈ A ++ (lrL x large ext ++ [48]), y = 48 ∨ y = 49 := by
   intro y hy
   rcases List.mem_append.1 hy with h | h
   ·exact mA y h
   ·rcases List.mem_append.1 h with h | h
    ·exact lrL_mem x _ _ y h
    ·simp at h; omega
  have lW : (A ++ (lrL x large ext ++ [48])).length ≤ 400000 := by rw [List.length_append, List.length_append]; simp; omega
  have eV := readlevels_ev (strOfNums (A ++ (lrL x large ext ++ [48]))) (A.length : Int) a q large ext
  rw [levV_back mW lW hx q large ext hc A [48] rfl] at eV
  obtain ⟨z, ez, hz⟩ := lbN_well hx.1 (allB_iff.2 hx.2) hc
  have eB := levelsback_ev x (by have := hx.1; omega) a q large ext
  rw [ez] at eB
  have eS := sameSelf_ev x (by have := hx.1; omega)
  have hW : strOfNums A ++ strOfNums (lrL x large ext) ++ (⟨#[48]⟩ : ByteArray) = strOfNums (A ++ (lrL x large ext ++ [48])) := by
   rw [← strOfNums_append, ← strOfNums_append, ByteArray.append_assoc]; rfl
  generalize lrL x large ext = S at *
  have g1 : ([] : List Int).length + x.length < 17592186044416 := by have := hx.1; simp; omega
  have g2 : (strOfNums A).size + (strOfNums S).size ≤ 9223372036854775807 := by rw [strOfNums_size, strOfNums_size]; omega
  have g3 : (strOfNums A ++ strOfNums S).size + 1 ≤ 9223372036854775807 := by rw [ByteArray.size_append, strOfNums_size, strOfNums_size]; omega
  have g6 : ((A.length + S.length : Nat) : Int) = wrap64 (((strOfNums A).size : Int) + ((strOfNums S).size : Int)) := by rw [strOfNums_size, strOfNums_size, wrap_id (by omega) (by omega)]; omega
  have g7 : ((z.length : Nat) : Int) = 64 := by omega
  rw [← strOfNums_size A] at eV g6
  refine Ev.bind ex (Ev.bind ec (Ev.bind eA ?_))
  simp only [Option.bind_some, g1, if_true, List.nil_append]
  refine Ev.bind eR ?_
  simp only [g2, g3, if_true, hW]
  refine Ev.bind eV ?_
  simp only [g1, if_true, List.nil_append]
  refine Ev.bind eB ?_
  simp only [if_true]
  refine Ev.bind eS ?_
  simp only [if_true, g6, g7, cond_val, Option.bind_some, hc]
  exact Ev.now _
end Go.Proofs.Ytlmlkoalicjlhaa.Pure