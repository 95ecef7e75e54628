/- Drawn squares come back from their rows, wherever these stand, as long as is told: the law FnSquares answers true of every row of bytes. No condition beside the row's own. -/
import Derived.Test.YtlmlkoalicjlhaaQFnSquaresx10
namespace Go.Proofs.Ytlmlkoalicjlhaa.Pure
open Go.RowKit Go.Proofs.Ytlmlkoalicjlhaa.QFnSquares Go.Proofs.YtlmlkoalicjlhaaW.PrintWords Go.Proofs.YtlmlkoalicjlhaaW.PrintLast Go.Proofs.YtlmlkoalicjlhaaW.PrintMore
set_option linter.unusedVariables false
set_option linter.unusedSimpArgs false
theorem wrap_id {x : Int} (h0 : -9223372036854775808 ≤ x) (h1 : x ≤ 9223372036854775807) : wrap64 x = x := by
 unfold wrap64
 omega
theorem within_eq (a b c : Int) : impl_within.f a b c = some (decide (b ≤ a ∧ a ≤ c)) := by
 unfold impl_within.f
 by_cases h : a ≥ b
 ·rw [if_pos h]; congr 1; rw [decide_eq_decide]; omega
 ·rw [if_neg h]; congr 1; symm; rw [decide_eq_false_iff_not]; omega
theorem down {P : Nat → Prop} (n : Nat) (h0 : P n) (hs : ∀ i, i < n → P (i + 1) → P i) : ∀ i, i ≤ n → P i := by
 intro i hi
 obtain ⟨d, hd⟩ : ∃ d, d = n - i := ⟨_, rfl⟩
 induction d generalizing i with
 | zero =>
  have : i = n := by omega
  subst this; exact h0
 | succ d ih => exact hs i (by omega) (ih (i + 1) (by omega) (by omega))
theorem rd_nat (l : List Int) (i : Nat) (h : i < l.length) : rd l (i : Int) = l[i] := by
 unfold rd
 rw [List.getD_eq_getElem?_getD, Int.toNat_natCast, List.getElem?_eq_getElem h]; rfl
theorem cast1 (i : Nat) : ((i : Nat) : Int) + 1 = ((i + 1 : Nat) : Int) := rfl
theorem drop_cons {α : Type} {l : List α} {i : Nat} (h : i < l.length) : l.drop i = l[i] :: l.drop (i + 1) := List.drop_eq_getElem_cons h
/-- All numbers of a list are from lo to hi. -/
def allB (lo hi : Int) (l : List Int) : Bool := l.all fun x => decide (lo ≤ x ∧ x ≤ hi)
theorem allB_cons (lo hi x : Int) (l : List Int) : allB lo hi (x :: l) = (decide (lo ≤ x ∧ x ≤ hi) && allB lo hi l) := rfl
theorem allB_iff {lo hi : Int} {l : List Int} : allB lo hi l = true ↔ ∀ x ∈ l, lo ≤ x ∧ x ≤ hi := by
 unfold allB
 rw [List.all_eq_true]
 simp only [decide_eq_true_eq]
theorem areIn_ev (l : List Int) (n lo hi : Int) (hl : l.length ≤ 17592186043904) : Ev (fun k => impl_areIn.f k l n lo hi) (decide ((l.length : Int) = n) && allB lo hi l) := by
 have H : ∀ i, i ≤ l.length → Ev (fun k => impl_areIn.l0 k l n lo hi l (l.length : Int) (i : Int)) (decide ((l.length : Int) = n) && allB lo hi (l.drop i)) := by
  refine down l.length ?_ ?_
  ·refine Ev.step (f := fun _ => some (decide ((l.length : Int) = n))) (fun k => ?_) ?_
   ·simp only [impl_areIn.l0]
    rw [if_neg (by omega)]; congr 1
   ·rw [List.drop_length]; simp only [allB, List.all_nil, Bool.and_true]; exact Ev.now _
  ·intro i h1 h
   rw [drop_cons h1, allB_cons]
   by_cases c : lo ≤ l[i] ∧ l[i] ≤ hi
   ·rw [decide_eq_true c, Bool.true_and]
    refine Ev.step (fun k => ?_) h
    simp only [impl_areIn.l0]
    rw [if_pos (by omega), if_pos (by omega), if_pos (by omega), rd_nat l i h1, within_eq, Option.bind_some, if_pos (decide_eq_true c), wrap_id (by omega) (by omega), cast1]
   ·rw [decide_eq_false c, Bool.false_and, Bool.and_false]
    refine Ev.step (f := fun _ => some false) (fun k => ?_) (Ev.now _)
    simp only [impl_areIn.l0]
    rw [if_pos (by omega), if_pos (by omega), if_pos (by omega), rd_nat l i h1, within_eq, Option.bind_some, if_neg (by simpa using c)]
 exact H 0 (by omega)
/-- How many binary figures a number has (at most w are looked at). -/
def figsF : Nat → Nat → Nat
 | 0, _ => 0
 | w + 1, x => if x = 0 then 0 else figsF w (x / 2) + 1
def figs (x : Nat) : Nat := figsF 64 x
/-- The last w binary figures of x, as the signs 48 and 49. -/
def fixL (x : Nat) : Nat → List Int
 | 0 => []
 | w + 1 => fixL (x / 2) w ++ [48 + ((x % 2 : Nat) : Int)]
def ueL (n : Nat) : List Int := fixL (n + 1) (2 * figs (n + 1) - 1)
theorem fixL_len (w : Nat) : ∀ x, (fixL x w).length = w := by
 induction w with
 | zero => intro x; rfl
 | succ w ih => intro x; simp [fixL, ih]
theorem figsF_lt (w : Nat) : ∀ x, x < 2 ^ w → ∀ v, w ≤ v → figsF v x = figsF w x := by
 induction w with
 | zero =>
  intro x hx v _
  have : x = 0 := by simpa using hx
  subst this
  cases v with
  | zero => rfl
  | succ v => simp [figsF]
 | succ w ih =>
  intro x hx v hv
  obtain ⟨v, rfl⟩ : ∃ m, v = m + 1 := ⟨v - 1, by omega⟩
  simp only [figsF]
  by_cases h0 : x = 0
  ·rw [if_pos h0, if_pos h0]
  ·rw [if_neg h0, if_neg h0, ih (x / 2) (by rw [Nat.pow_succ] at hx; omega) v (by omega)]
theorem figsF_le (w : Nat) : ∀ x, figsF w x ≤ w := by
 induction w with
 | zero => intro x; simp [figsF]
 | succ w ih =>
  intro x
  simp only [figsF]
  split
  ·omega
  ·have := ih (x / 2); omega
theorem figs_le (x : Nat) : figs x ≤ 64 := figsF_le 64 x
theorem figs_half {x : Nat} (h0 : 0 < x) (h : x < 2 ^ 64) : figs x = figs (x / 2) + 1 := by
 unfold figs
 rw [show figsF 64 x = figsF 63 (x / 2) + 1 by rw [show (64 : Nat) = 63 + 1 from rfl]; simp only [figsF]; rw [if_neg (by omega)]]
 rw [figsF_lt 63 (x / 2) (by omega) 64 (by omega)]
theorem figs_zero : figs 0 = 0 := rfl
theorem figs_pos {x : Nat} (h0 : 0 < x) (h : x < 2 ^ 64) : 0 < figs x := by rw [figs_half h0 h]; omega
theorem fixL_zero (w : Nat) : fixL 0 w = List.replicate w 48 := by
 induction w with
 | zero => rfl
 | succ w ih => simp only [fixL]; rw [ih, List.replicate_succ']; rfl
/-- More width: noughts ahead. -/
theorem fixL_more (w : Nat) : ∀ x, x < 2 ^ 64 → figs x ≤ w → fixL x w = List.replicate (w - figs x) 48 ++ fixL x (figs x) := by
 induction w with
 | zero =>
  intro x hx h
  have : figs x = 0 := by omega
  rw [this]; rfl
 | succ w ih =>
  intro x hx h
  by_cases h0 : x = 0
  ·subst h0; rw [fixL_zero, figs_zero]; simp [fixL]
  ·have e := figs_half (show 0 < x by omega) hx
   have i := ih (x / 2) (by omega) (by omega)
   have e2 : fixL x (figs x) = fixL (x / 2) (figs (x / 2)) ++ [48 + ((x % 2 : Nat) : Int)] := by rw [e]; rfl
   rw [e2, ← List.append_assoc]
   simp only [fixL]
   rw [i]
   congr 3
   omega
theorem ueL_eq (n : Nat) (h : n + 1 < 2 ^ 64) : ueL n = List.replicate (figs (n + 1) - 1) 48 ++ fixL (n + 1) (figs (n + 1)) := by
 have hp := figs_pos (x := n + 1) (by omega) h
 unfold ueL
 rw [fixL_more _ _ h (by omega)]
 congr 2
 omega
theorem ueL_len (n : Nat) : (ueL n).length ≤ 127 := by
 unfold ueL; rw [fixL_len]
 have := figs_le (n + 1)
 omega
theorem fixL_mem (w : Nat) : ∀ x, ∀ y ∈ fixL x w, y = 48 ∨ y = 49 := by
 induction w with
 | zero => intro x y hy; simp [fixL] at hy
 | succ w ih =>
  intro x y hy
  simp only [fixL, List.mem_append, List.mem_singleton] at hy
  rcases hy with hy | hy
  ·exact ih _ y hy
  ·omega
theorem ueL_mem (n : Nat) : ∀ y ∈ ueL n, y = 48 ∨ y = 49 := fixL_mem _ _
/-- Signs and counted numbers. -/
def foldN (x : Int) : Nat := if x > 0 then (2 * x - 1).toNat else (-2 * x).toNat
def isnz (x : Int) : Nat := if x = 0 then 0 else 1
def cntN (l : List Int) : Nat := (l.map isnz).sum
def rtL : Nat → List Int → List Int
 | _, [] => []
 | z, x :: l => if x = 0 then rtL (z + 1) l else ueL z ++ (ueL (foldN x) ++ rtL 0 l)
def runsL (l : List Int) : List Int := ueL (cntN l) ++ rtL 0 l
theorem rtL_len : ∀ (l : List Int) (z : Nat), (rtL z l).length ≤ 254 * l.length := by
 intro l
 induction l with
 | nil => intro z; simp [rtL]
 | cons x l ih =>
  intro z
  simp only [rtL]
  split
  ·have := ih (z + 1); simp only [List.length_cons]; omega
  ·have h1 := ueL_len z
   have h2 := ueL_len (foldN x)
   have h3 := ih 0
   simp only [List.length_append, List.length_cons]; omega
theorem strOfNums_append (a b : List Int) : strOfNums a ++ strOfNums b = strOfNums (a ++ b) := by
 apply ByteArray.ext
 simp [strOfNums, ByteArray.data_append]
theorem bytesOf_strOfNums {l : List Int} (h : ∀ x ∈ l, 0 ≤ x ∧ x ≤ 255) : bytesOf (strOfNums l) = l := by
 unfold bytesOf
 rw [strOfNums_data, List.map_map]
 conv => rhs; rw [← List.map_id l]
 apply List.map_congr_left
 intro x hx
 have := h x hx
 simp
 omega
theorem figs_loop (w : Nat) : ∀ (x c : Nat), x < 2 ^ w → w ≤ 63 → c + w ≤ 1000 → Ev (fun k => impl_figuresOf.l0 k (x : Int) (c : Int)) ((c + figs x : Nat) : Int) := by
 have hend : ∀ c : Nat, Ev (fun k => impl_figuresOf.l0 k ((0 : Nat) : Int) (c : Int)) ((c + figs 0 : Nat) : Int) := fun c =>
  Ev.step (f := fun _ => some ((c + figs 0 : Nat) : Int)) (fun k => by simp only [impl_figuresOf.l0]; rw [if_neg (by omega)]; rfl) (Ev.now _)
 induction w with
 | zero =>
  intro x c hx _ _
  have : x = 0 := by simpa using hx
  subst this; exact hend c
 | succ w ih =>
  intro x c hx hw hc
  have h64 : 2 ^ (w + 1) ≤ 2 ^ 64 := Nat.pow_le_pow_right (by decide) (by omega)
  by_cases h0 : x = 0
  ·subst h0; exact hend c
  ·have e := figs_half (show 0 < x by omega) (by omega)
   have i := ih (x / 2) (c + 1) (by rw [Nat.pow_succ] at hx; omega) (by omega) (by omega)
   rw [show c + figs x = c + 1 + figs (x / 2) by omega]
   refine Ev.step (fun k => ?_) i
   simp only [impl_figuresOf.l0]
   rw [if_pos (by omega), wrap_id (by omega) (by omega), cast1, show ((x : Int) / 2) = ((x / 2 : Nat) : Int) by omega]
theorem figs_ev (x : Nat) (hx : x < 2 ^ 63) : Ev (fun k => impl_figuresOf.f k (x : Int)) (figs x : Int) := by
 have h := figs_loop 63 x 0 hx (by omega) (by omega)
 rw [Nat.zero_add] at h
 exact h
theorem i64_and1 (x : Nat) (hx : x < 2 ^ 63) : Go.bits .and .i64 (x : Int) 1 = ((x % 2 : Nat) : Int) := by
 have h := bits_mask .i64 63 (by decide) (fun n h0 h1 => by rw [IntKind.wrap_i64]; omega) 1 (by decide) (x : Int) (by omega) (by omega)
 rw [show ((2 : Int) ^ 1 - 1) = 1 from rfl, show ((2 : Int) ^ 1) = 2 from rfl] at h
 rw [h]; omega
theorem rep_set (v : Nat) (d : Int) (tail : List Int) : (List.replicate (v + 1) (0 : Int) ++ tail).set v d = List.replicate v 0 ++ ([d] ++ tail) := by
 rw [List.replicate_succ', List.append_assoc, List.set_append_right _ _ (by simp), show v - (List.replicate v (0 : Int)).length = 0 by simp]
 rfl
theorem signs_loop (v : Nat) : ∀ (x : Nat) (tail : List Int), x < 2 ^ 63 → v ≤ 1000 → Ev (fun k => impl_signs.l0 k (x : Int) (List.replicate v 0 ++ tail) ((v : Int) - 1)) (strOfNums (fixL x v ++ tail)) := by
 induction v with
 | zero =>
  intro x tail _ _
  refine Ev.step (f := fun _ => some (strOfNums tail)) (fun k => ?_) (Ev.now _)
  simp only [impl_signs.l0]
  rw [if_neg (by omega)]; rfl
 | succ v ih =>
  intro x tail hx hv
  have i := ih (x / 2) ([48 + ((x % 2 : Nat) : Int)] ++ tail) (by omega) (by omega)
  rw [show fixL x (v + 1) ++ tail = fixL (x / 2) v ++ ([48 + ((x % 2 : Nat) : Int)] ++ tail) by simp only [fixL]; rw [List.append_assoc]]
  refine Ev.step (fun k => ?_) i
  simp only [impl_signs.l0]
  rw [if_pos (by omega), if_pos (by omega), if_pos (by simp; omega), i64_and1 x hx, wrap_id (x := 48 + ((x % 2 : Nat) : Int)) (by omega) (by omega), show (48 + ((x % 2 : Nat) : Int)) % 256 = 48 + ((x % 2 : Nat) : Int) by omega, show (((v + 1 : Nat) : Int) - 1) = (v : Int) by omega, Int.toNat_natCast, rep_set, show ((x : Int) / 2) = ((x / 2 : Nat) : Int) by omega, wrap_id (by omega) (by omega)]
theorem signs_ev (x w : Nat) (hx : x < 2 ^ 63) (hw : w ≤ 1000) : Ev (fun k => impl_signs.f k (x : Int) (w : Int)) (strOfNums (fixL x w)) := by
 have h := signs_loop w x [] hx hw
 rw [List.append_nil, List.append_nil] at h
 unfold impl_signs.f
 refine Ev.congr (fun k => ?_) h
 rw [if_pos (by omega), if_pos (by rw [Int.toNat_natCast]; omega), Int.toNat_natCast, wrap_id (by omega) (by omega)]
theorem ue_ev (n : Nat) (hn : n < 1000000000000) : Ev (fun k => impl_ue.f k (n : Int)) (strOfNums (ueL n)) := by
 have hp := figs_pos (x := n + 1) (by omega) (by omega)
 have hle := figs_le (n + 1)
 have h1 := figs_ev (n + 1) (by omega)
 have h2 := signs_ev (n + 1) (2 * figs (n + 1) - 1) (by omega) (by omega)
 unfold impl_ue.f
 refine Ev.congr (f := fun k => (impl_figuresOf.f k ((n + 1 : Nat) : Int)).bind fun t => ((impl_signs.f k ((n + 1 : Nat) : Int) (wrap64 ((wrap64 (2 * t)) - 1))).bind fun t138 => (some t138))) (fun k => by rw [wrap_id (x := (n : Int) + 1) (by omega) (by omega)]; rfl) (Ev.bind h1 ?_)
 rw [wrap_id (x := 2 * (figs (n + 1) : Int)) (by omega) (by omega), wrap_id (by omega) (by omega), show (2 * (figs (n + 1) : Int) - 1) = ((2 * figs (n + 1) - 1 : Nat) : Int) by omega]
 exact Ev.bind h2 (Ev.now _)
theorem fold_lt {x : Int} (h0 : -500000 ≤ x) (h1 : x ≤ 500000) : foldN x ≤ 1000000 := by unfold foldN; split <;> omega
theorem fold_eq (x : Int) (h0 : -500000 ≤ x) (h1 : x ≤ 500000) : impl_FoldSe.f x = some ((foldN x : Int), true) := by
 unfold impl_FoldSe.f foldN
 rw [within_eq, Option.bind_some, if_pos (decide_eq_true ⟨h0, h1⟩)]
 by_cases c : x > 0
 ·rw [if_pos c, if_pos c, wrap_id (x := 2 * x) (by omega) (by omega), wrap_id (by omega) (by omega), Int.toNat_of_nonneg (by omega)]
 ·rw [if_neg c, if_neg c, wrap_id (by omega) (by omega), Int.toNat_of_nonneg (by omega)]
theorem cntN_cons (x : Int) (l : List Int) : cntN (x :: l) = isnz x + cntN l := by simp [cntN]
theorem cntN_le (l : List Int) : cntN l ≤ l.length := by
 induction l with
 | nil => simp [cntN]
 | cons x l ih => rw [cntN_cons]; unfold isnz; simp only [List.length_cons]; split <;> omega
theorem bytes_row {l : List Int} (h : ∀ y ∈ l, y = 48 ∨ y = 49) : bytesOf (strOfNums l) = l :=
 bytesOf_strOfNums fun x hx => by rcases h x hx with e | e <;> omega
theorem runs_l1 (l : List Int) (hl : l.length ≤ 64) (hb : allB (-5000) 5000 l = true) :
  ∀ i : Nat, i ≤ l.length → ∀ (out : List Int) (z : Nat), out.length ≤ 300 * i + 300 → z ≤ i → Ev (fun k => impl_runs.l1 k out (z : Int) l (l.length : Int) (i : Int)) (out ++ rtL z (l.drop i)) := by
 refine down l.length ?_ ?_
 ·intro out z _ _
  rw [List.drop_length, rtL, List.append_nil]
  refine Ev.step (f := fun _ => some out) (fun k => ?_) (Ev.now _)
  simp only [impl_runs.l1]
  rw [if_neg (by omega)]
 ·intro i hi h out z ho hz
  have hm := allB_iff.1 hb _ (List.getElem_mem hi)
  rw [drop_cons hi]
  by_cases c : l[i] = 0
  ·have h' := h out (z + 1) (by omega) (by omega)
   rw [rtL, if_pos c]
   refine Ev.step (fun k => ?_) h'
   simp only [impl_runs.l1]
   rw [if_pos (by omega), if_pos (by omega), if_pos (by omega), rd_nat l i hi, if_pos c, wrap_id (x := (z : Int) + 1) (by omega) (by omega), wrap_id (by omega) (by omega), cast1, cast1]
  ·have lz := ueL_len z
   have lf := ueL_len (foldN l[i])
   have h' := h (out ++ ueL z ++ ueL (foldN l[i])) 0 (by simp only [List.length_append]; omega) (by omega)
   have hu := ue_ev z (by omega)
   have hf := ue_ev (foldN l[i]) (by have := fold_lt (x := l[i]) (by omega) (by omega); omega)
   rw [rtL, if_neg c]
   rw [show out ++ (ueL z ++ (ueL (foldN l[i]) ++ rtL 0 (l.drop (i + 1)))) = out ++ ueL z ++ ueL (foldN l[i]) ++ rtL 0 (l.drop (i + 1)) by simp only [List.append_assoc]]
   refine Ev.step (f := fun k => (impl_ue.f k (z : Int)).bind fun t151 => (if out.length + t151.size < 140737488355328 then ((some (out ++ bytesOf t151 : List Int)).bind fun y152 => ((impl_ue.f k (foldN l[i] : Int)).bind fun t155 => (if y152.length + t155.size < 140737488355328 then (impl_runs.l1 k (y152 ++ bytesOf t155) 0 l (l.length : Int) ((i + 1 : Nat) : Int)) else (none)))) else (none))) (fun k => ?_) (Ev.bind hu ?_)
   ·simp only [impl_runs.l1]
    rw [if_pos (by omega), if_pos (by omega), if_pos (by omega), rd_nat l i hi, if_neg c, fold_eq _ (by omega) (by omega), Option.bind_some, wrap_id (x := (i : Int) + 1) (by omega) (by omega), cast1]
   ·rw [bytes_row (ueL_mem z)]
    have e1 : out.length + (strOfNums (ueL z)).size < 140737488355328 := by rw [strOfNums_size]; omega
    have e2 : (out ++ ueL z).length + (strOfNums (ueL (foldN l[i]))).size < 140737488355328 := by rw [strOfNums_size, List.length_append]; omega
    simp only [e1, if_true, Option.bind_some]
    refine Ev.bind hf ?_
    simp only [e2, if_true]
    rw [bytes_row (ueL_mem _)]
    exact h'
theorem runs_l0 (l : List Int) (hl : l.length ≤ 64) (hb : allB (-5000) 5000 l = true) :
  ∀ i : Nat, i ≤ l.length → ∀ (c : Nat), c ≤ i → Ev (fun k => impl_runs.l0 k l [] (c : Int) l (l.length : Int) (i : Int)) (ueL (c + cntN (l.drop i)) ++ rtL 0 l) := by
 refine down l.length ?_ ?_
 ·intro c hc
  rw [List.drop_length, show cntN [] = 0 from rfl, Nat.add_zero]
  have hu := ue_ev c (by omega)
  have h1 := runs_l1 l hl hb 0 (by omega) (ueL c) 0 (by have := ueL_len c; omega) (by omega)
  rw [List.drop_zero] at h1
  refine Ev.step (f := fun k => (impl_ue.f k (c : Int)).bind fun t144 => (if ([] : List Int).length + t144.size < 140737488355328 then (impl_runs.l1 k ([] ++ bytesOf t144) 0 l (l.length : Int) 0) else (none))) (fun k => ?_) (Ev.bind hu ?_)
  ·simp only [impl_runs.l0]
   rw [if_neg (by omega)]
  ·rw [bytes_row (ueL_mem c)]
   have e1 : ([] : List Int).length + (strOfNums (ueL c)).size < 140737488355328 := by rw [strOfNums_size]; have := ueL_len c; simp; omega
   simp only [e1, if_true, List.nil_append]
   exact h1
 ·intro i hi h c hc
  rw [drop_cons hi, cntN_cons]
  by_cases c0 : l[i] = 0
  ·have h' := h c (by omega)
   rw [show isnz l[i] = 0 by unfold isnz; rw [if_pos c0], Nat.zero_add]
   refine Ev.step (fun k => ?_) h'
   simp only [impl_runs.l0]
   rw [if_pos (by omega), if_pos (by omega), if_pos (by omega), rd_nat l i hi, if_pos c0, wrap_id (by omega) (by omega), cast1]
  ·have h' := h (c + 1) (by omega)
   rw [show isnz l[i] = 1 by unfold isnz; rw [if_neg c0], ← Nat.add_assoc]
   refine Ev.step (fun k => ?_) h'
   simp only [impl_runs.l0]
   rw [if_pos (by omega), if_pos (by omega), if_pos (by omega), rd_nat l i hi, if_neg c0, wrap_id (x := (c : Int) + 1) (by omega) (by omega), wrap_id (by omega) (by omega), cast1, cast1]
theorem runs_ev (l : List Int) (hl : l.length ≤ 64) (hb : allB (-5000) 5000 l = true) : Ev (fun k => impl_runs.f k l) (runsL l) := by
 have h := runs_l0 l hl hb 0 (by omega) 0 (by omega)
 rw [List.drop_zero, Nat.zero_add] at h
 exact h
theorem and_le (x : Int) (m : Nat) (hm : m < 9223372036854775808) : 0 ≤ Go.bits .and .i64 x (m : Int) ∧ Go.bits .and .i64 x (m : Int) ≤ (m : Int) := by
 have h : (BitVec.ofInt 64 x &&& BitVec.ofInt 64 (m : Int)).toNat ≤ m := by
  rw [BitVec.toNat_and]
  refine Nat.le_trans Nat.and_le_right ?_
  rw [BitVec.ofInt_natCast, BitVec.toNat_ofNat]
  exact Nat.mod_le _ _
 have e : Go.bits .and .i64 x (m : Int) = IntKind.i64.wrap (((BitVec.ofInt 64 x &&& BitVec.ofInt 64 (m : Int)).toNat : Nat) : Int) := rfl
 rw [e, IntKind.wrap_i64]
 omega
/-- n bytes from i on are signs. -/
def signB (s : ByteArray) : Nat → Nat → Bool
 | 0, _ => true
 | n + 1, i => (decide (bt s (i : Int) = 48) || decide (bt s (i : Int) = 49)) && signB s n (i + 1)
def rowB (s : ByteArray) : Bool := decide (s.size ≤ 400000) && signB s s.size 0
theorem signB_at (s : ByteArray) (n : Nat) : ∀ i, signB s n i = true → ∀ j, i ≤ j → j < i + n → bt s (j : Int) = 48 ∨ bt s (j : Int) = 49 := by
 induction n with
 | zero => intro i _ j h1 h2; omega
 | succ n ih =>
  intro i h j h1 h2
  rw [signB, Bool.and_eq_true, Bool.or_eq_true, decide_eq_true_eq, decide_eq_true_eq] at h
  by_cases e : j = i
  ·subst e; exact h.1
  ·exact ih (i + 1) h.2 j (by omega) (by omega)
theorem rowB_at {s : ByteArray} (h : rowB s = true) : s.size ≤ 400000 ∧ ∀ j, j < s.size → bt s (j : Int) = 48 ∨ bt s (j : Int) = 49 := by
 unfold rowB at h
 rw [Bool.and_eq_true, decide_eq_true_eq] at h
 exact ⟨h.1, fun j hj => signB_at s _ 0 h.2 j (by omega) (by omega)⟩
theorem row_loop (s : ByteArray) (hs : s.size ≤ 400000) : ∀ i, i ≤ s.size → Ev (fun k => impl_RowOk.l0 k s (i : Int)) (signB s (s.size - i) i) := by
 refine down s.size ?_ ?_
 ·refine Ev.step (f := fun _ => some true) (fun k => ?_) (by rw [Nat.sub_self]; exact Ev.now _)
  simp only [impl_RowOk.l0]
  rw [if_neg (by omega)]
 ·intro i hi h
  rw [show s.size - i = (s.size - (i + 1)) + 1 by omega, signB]
  by_cases c0 : bt s (i : Int) = 48
  ·rw [decide_eq_true c0, Bool.true_or, Bool.true_and]
   refine Ev.step (fun k => ?_) h
   simp only [impl_RowOk.l0]
   rw [if_pos (by omega), if_pos (by omega), if_pos c0, wrap_id (by omega) (by omega), cast1]
  ·rw [decide_eq_false c0, Bool.false_or]
   by_cases c1 : bt s (i : Int) = 49
   ·rw [decide_eq_true c1, Bool.true_and]
    refine Ev.step (fun k => ?_) h
    simp only [impl_RowOk.l0]
    rw [if_pos (by omega), if_pos (by omega), if_neg c0, if_pos c1, wrap_id (by omega) (by omega), cast1]
   ·rw [decide_eq_false c1, Bool.false_and]
    refine Ev.step (f := fun _ => some false) (fun k => ?_) (Ev.now _)
    simp only [impl_RowOk.l0]
    rw [if_pos (by omega), if_pos (by omega), if_neg c0, if_neg c1]
theorem row_ev (s : ByteArray) : Ev (fun k => impl_RowOk.f k s) (rowB s) := by
 unfold impl_RowOk.f rowB
 by_cases c : s.size ≤ 400000
 ·rw [decide_eq_true c, Bool.true_and]
  exact Ev.congr (fun k => by rw [if_neg (by omega)] <;> rfl) (row_loop s c 0 (by omega))
 ·rw [decide_eq_false c, Bool.false_and]
  exact Ev.congr (f := fun _ => some false) (fun k => by rw [if_pos (by omega)]) (Ev.now _)
/-- The number that n signs from p on tell, behind a. -/
def bv (s : ByteArray) : Nat → Nat → Int → Int
 | 0, _, a => a
 | n + 1, p, a => bv s n (p + 1) (2 * a + (bt s (p : Int) - 48))
/-- A row of signs. -/
def RowR (s : ByteArray) : Prop := s.size ≤ 400000 ∧ ∀ j, j < s.size → bt s (j : Int) = 48 ∨ bt s (j : Int) = 49
theorem pow_step {a b : Int} {n : Nat} (h : (a + 1) * 2 ^ (n + 1) ≤ 2199023255552) (hb : b ≤ 2 * a + 1) : (b + 1) * 2 ^ n ≤ 2199023255552 := by
 have e : (a + 1) * 2 ^ (n + 1) = (2 * a + 2) * 2 ^ n := by rw [Int.pow_succ]; rw [Int.mul_comm (2 ^ n) 2, ← Int.mul_assoc]; congr 1; omega
 rw [e] at h
 have : (b + 1) * 2 ^ n ≤ (2 * a + 2) * 2 ^ n := Int.mul_le_mul_of_nonneg_right (by omega) (Int.le_of_lt (Int.pow_pos (by omega)))
 omega
theorem pow_small {a : Int} {n : Nat} (h0 : 0 ≤ a) (h : (a + 1) * 2 ^ n ≤ 2199023255552) : a ≤ 2199023255552 := by
 have h1 : (1 : Int) ≤ 2 ^ n := Int.pow_pos (by omega)
 have : (a + 1) * 1 ≤ (a + 1) * 2 ^ n := Int.mul_le_mul_of_nonneg_left h1 (by omega)
 omega
theorem or_bit (a b : Nat) (ha : a < 1152921504606846976) (hb : b < 2) : Go.bits .or .i64 ((2 * a : Nat) : Int) (b : Int) = ((2 * a + b : Nat) : Int) := by
 have e : Go.bits .or .i64 ((2 * a : Nat) : Int) (b : Int) = IntKind.i64.wrap (((BitVec.ofInt 64 ((2 * a : Nat) : Int) ||| BitVec.ofInt 64 (b : Int)).toNat : Nat) : Int) := rfl
 have o : 2 * a ||| b = 2 * a + b := by
  have h := Nat.shiftLeft_add_eq_or_of_lt (i := 1) (b := b) (by omega) a
  rw [Nat.shiftLeft_eq] at h
  rw [show 2 * a = a * 2 ^ 1 by omega]
  exact h.symm
 rw [e, BitVec.ofInt_natCast, BitVec.ofInt_natCast, BitVec.toNat_or, BitVec.toNat_ofNat, BitVec.toNat_ofNat, Nat.mod_eq_of_lt (by omega), Nat.mod_eq_of_lt (by omega), o, IntKind.wrap_i64]
 omega
theorem fix_loop (s : ByteArray) (hr : RowR s) (p n0 : Nat) (bad : Bool) (hp : p + n0 ≤ s.size) (n : Nat) : ∀ (q : Nat) (a : Int), q + n = n0 → 0 ≤ a → (a + 1) * 2 ^ n ≤ 2199023255552 →
  Ev (fun k => impl_scan_fix.l0 k (n0 : Int) a (q : Int) s (p : Int) bad) (bv s n (p + q) a, s, ((p + n0 : Nat) : Int), bad) := by
 have hsz := hr.1
 have w0 : wrap64 ((p : Int) + (n0 : Int)) = ((p + n0 : Nat) : Int) := by rw [wrap_id (by omega) (by omega)]; omega
 induction n with
 | zero =>
  intro q a e h0 h1
  refine Ev.step (f := fun _ => some (a, s, ((p + n0 : Nat) : Int), bad)) (fun k => ?_) (Ev.now _)
  simp only [impl_scan_fix.l0]
  rw [w0, if_neg (by clear w0; omega)]
 | succ n ih =>
  intro q a e h0 h1
  have hb := hr.2 (p + q) (by clear w0; omega)
  have hs := pow_small h0 h1
  have e1 : Go.bits .or .i64 (wrap64 (a * 2)) ((bt s ((p + q : Nat) : Int) - 48) % 256) = 2 * a + (bt s ((p + q : Nat) : Int) - 48) := by
   clear w0
   generalize bt s ((p + q : Nat) : Int) = b at hb ⊢
   obtain ⟨m, rfl⟩ := Int.eq_ofNat_of_zero_le h0
   rw [wrap_id (x := (m : Int) * 2) (by omega) (by omega), show (m : Int) * 2 = ((2 * m : Nat) : Int) by omega]
   rcases hb with rfl | rfl
   ·rw [show ((48 : Int) - 48) % 256 = ((0 : Nat) : Int) by decide, or_bit m 0 (by omega) (by omega)]; omega
   ·rw [show ((49 : Int) - 48) % 256 = ((1 : Nat) : Int) by decide, or_bit m 1 (by omega) (by omega)]; omega
  have e2 : wrap64 ((q : Int) + 1) = ((q + 1 : Nat) : Int) := by clear w0 e1; rw [wrap_id (by omega) (by omega)]; omega
  have e3 : wrap64 ((p : Int) + (q : Int)) = ((p + q : Nat) : Int) := by clear w0 e1 e2; rw [wrap_id (by omega) (by omega)]; omega
  have h' := ih (q + 1) (2 * a + (bt s ((p + q : Nat) : Int) - 48)) (by clear w0 e1 e2 e3; omega) (by clear w0 e1 e2 e3; omega) (pow_step h1 (by clear w0 e1 e2 e3; omega))
  refine Ev.step (fun k => ?_) h'
  simp only [impl_scan_fix.l0]
  rw [if_pos (by clear w0 e1 e2 e3; omega), e3, if_pos (by clear w0 e1 e2 e3; omega), if_pos (by clear w0 e1 e2 e3; omega), e1, e2]
/-- What the program's fix answers: the number, and the state behind it. -/
def fixR (s : ByteArray) (p n : Nat) (bad : Bool) : Int × ByteArray × Int × Bool := if bad = false ∧ p + n ≤ s.size then (bv s n p 0, s, ((p + n : Nat) : Int), false) else (0, s, (p : Int), true)
theorem fix_ev (s : ByteArray) (hr : RowR s) (p n : Nat) (bad : Bool) (hp : p ≤ s.size) (hn : n ≤ 41) (hb : bad = false → n ≤ 41) : Ev (fun k => impl_scan_fix.f k s (p : Int) bad (n : Int)) (fixR s p n bad) := by
 have hsz := hr.1
 have hbad : ∀ b : Bool, Ev (fun k => impl_scan_fix.j0 k (n : Int) true s (p : Int) b) (0, s, (p : Int), true) := fun b => Ev.step (f := fun _ => some (0, s, (p : Int), true)) (fun k => by simp only [impl_scan_fix.j0]; rfl) (Ev.now _)
 unfold impl_scan_fix.f fixR
 cases bad with
 | true =>
  rw [if_neg (by simp)]
  exact Ev.congr (fun k => by rw [if_pos rfl]) (hbad true)
 | false =>
  have w0 : wrap64 ((s.size : Int) - (p : Int)) = (s.size : Int) - (p : Int) := wrap_id (by omega) (by omega)
  rw [w0]
  clear w0
  by_cases c : p + n ≤ s.size
  ·rw [if_pos ⟨rfl, c⟩]
   have hpow : ((0 : Int) + 1) * 2 ^ n ≤ 2199023255552 := by
    have : (2 : Int) ^ n ≤ 2 ^ 41 := by
     have := Nat.pow_le_pow_right (show 0 < 2 by omega) hn
     exact_mod_cast this
    omega
   have h := fix_loop s hr p n false c n 0 0 (by omega) (by omega) hpow
   have hd : decide ((s.size : Int) - (p : Int) < (n : Int)) = false := decide_eq_false (by omega)
   rw [hd]
   refine Ev.congr (f := fun k => impl_scan_fix.j0 k (n : Int) false s (p : Int) false) (fun k => by rw [if_neg (by simp)]) (Ev.step (fun k => ?_) h)
   simp only [impl_scan_fix.j0, Bool.false_eq_true, if_false]
   rfl
  ·rw [if_neg (fun h => c h.2)]
   have hd : decide ((s.size : Int) - (p : Int) < (n : Int)) = true := decide_eq_true (by omega)
   rw [hd]
   exact Ev.congr (fun k => by rw [if_neg (by simp)]) (hbad false)
/-- How many noughts stand from p on, of n bytes. -/
def zc (s : ByteArray) : Nat → Nat → Nat
 | 0, _ => 0
 | n + 1, p => if bt s (p : Int) = 48 then zc s n (p + 1) + 1 else 0
theorem zc_le (s : ByteArray) (n : Nat) : ∀ p, zc s n p ≤ n := by
 induction n with
 | zero => intro p; rw [zc]; omega
 | succ n ih => intro p; rw [zc]; have := ih (p + 1); split <;> omega
theorem zc_lt (s : ByteArray) (n : Nat) : ∀ p z, z < zc s n p → bt s ((p + z : Nat) : Int) = 48 := by
 induction n with
 | zero => intro p z h; rw [zc] at h; omega
 | succ n ih =>
  intro p z h
  rw [zc] at h
  by_cases c : bt s (p : Int) = 48
  ·rw [if_pos c] at h
   cases z with
   | zero => rw [Nat.add_zero]; exact c
   | succ z => rw [show p + (z + 1) = (p + 1) + z by omega]; exact ih (p + 1) z (by omega)
  ·rw [if_neg c] at h; omega
theorem zc_end (s : ByteArray) (n : Nat) : ∀ p, zc s n p < n → bt s ((p + zc s n p : Nat) : Int) ≠ 48 := by
 induction n with
 | zero => intro p h; omega
 | succ n ih =>
  intro p h
  by_cases c : bt s (p : Int) = 48
  ·have e : zc s (n + 1) p = zc s n (p + 1) + 1 := by rw [zc, if_pos c]
   rw [e] at h ⊢
   rw [show p + (zc s n (p + 1) + 1) = (p + 1) + zc s n (p + 1) by omega]
   exact ih (p + 1) (by omega)
  ·have e : zc s (n + 1) p = 0 := by rw [zc, if_neg c]
   rw [e, Nat.add_zero]; exact c
def nz (s : ByteArray) (p : Nat) : Nat := zc s (s.size - p) p
def ueN (s : ByteArray) (p : Nat) : Int := bv s (2 * nz s p + 1) p 0 - 1
def ueE (s : ByteArray) (p : Nat) : Nat := p + (2 * nz s p + 1)
/-- A number can be read from p on. -/
def UeOk (s : ByteArray) (p : Nat) : Prop := nz s p ≤ 20 ∧ ueE s p ≤ s.size ∧ ueN s p ≤ 1000000
instance (s : ByteArray) (p : Nat) : Decidable (UeOk s p) := by unfold UeOk; infer_instance
theorem bv_in (s : ByteArray) (hr : RowR s) (n : Nat) : ∀ (q : Nat) (a : Int), q + n ≤ s.size → 0 ≤ a → a * 2 ^ n ≤ bv s n q a ∧ bv s n q a < (a + 1) * 2 ^ n := by
 induction n with
 | zero => intro q a _ _; rw [bv, Int.pow_zero, Int.mul_one, Int.mul_one]; omega
 | succ n ih =>
  intro q a hq h0
  have hb := hr.2 q (by omega)
  rw [bv]
  generalize bt s (q : Int) = b at hb ⊢
  have h := ih (q + 1) (2 * a + (b - 48)) (by omega) (by omega)
  have hp : (0 : Int) < 2 ^ n := Int.pow_pos (by omega)
  have e : ∀ c : Int, c * 2 ^ (n + 1) = (2 * c) * 2 ^ n := by intro c; rw [Int.pow_succ, Int.mul_comm (2 ^ n) 2, ← Int.mul_assoc, Int.mul_comm c 2]
  rw [e, e]
  have h1 : (2 * a) * 2 ^ n ≤ (2 * a + (b - 48)) * 2 ^ n := Int.mul_le_mul_of_nonneg_right (by omega) (Int.le_of_lt hp)
  have h2 : (2 * a + (b - 48) + 1) * 2 ^ n ≤ (2 * (a + 1)) * 2 ^ n := Int.mul_le_mul_of_nonneg_right (by omega) (Int.le_of_lt hp)
  omega
theorem fixbad_ev (s : ByteArray) (q n : Int) : Ev (fun k => impl_scan_fix.f k s q true n) (0, s, q, true) := by
 unfold impl_scan_fix.f
 refine Ev.congr (f := fun k => impl_scan_fix.j0 k n true s q true) (fun k => by rw [if_pos rfl]) (Ev.step (f := fun _ => some (0, s, q, true)) (fun k => by simp only [impl_scan_fix.j0]; rfl) (Ev.now _))
theorem uebad_ev (s : ByteArray) (q : Int) : Ev (fun k => impl_scan_ue.f k s q true) (0, s, q, true) := by
 unfold impl_scan_ue.f
 refine Ev.step (f := fun k => impl_scan_ue.j1 k 0 s q true) (fun k => by simp only [impl_scan_ue.l0]; rfl) ?_
 refine Ev.step (f := fun k => (impl_scan_fix.f k s q true (wrap64 ((wrap64 (2 * 0)) + 1))).bind fun bt179 => (if bt179.2.2.2 = true then (some (0, bt179.2.1, bt179.2.2.1, true)) else (if (wrap64 (bt179.1 - 1)) > 1000000 then (some (0, bt179.2.1, bt179.2.2.1, true)) else (some (wrap64 (bt179.1 - 1), bt179.2.1, bt179.2.2.1, bt179.2.2.2))))) (fun k => by simp only [impl_scan_ue.j1]; rw [if_neg (by omega)]) (Ev.bind (fixbad_ev s q _) ?_)
 exact Ev.now _
theorem ue_loop (s : ByteArray) (hr : RowR s) (p : Nat) (hp : p ≤ s.size) (R : Int × ByteArray × Int × Bool) (h : Ev (fun k => impl_scan_ue.j1 k (nz s p : Int) s (p : Int) false) R) :
  ∀ z, z ≤ nz s p → Ev (fun k => impl_scan_ue.l0 k (z : Int) s (p : Int) false) R := by
 have hsz := hr.1
 have hle := zc_le s (s.size - p) p
 have hn : nz s p = zc s (s.size - p) p := rfl
 refine down (nz s p) ?_ ?_
 ·have e3 : wrap64 ((p : Int) + (nz s p : Int)) = ((p + nz s p : Nat) : Int) := by rw [wrap_id (by omega) (by omega)]; omega
  refine Ev.step (fun k => ?_) h
  simp only [impl_scan_ue.l0, Bool.false_eq_true, if_false]
  rw [e3]
  clear e3
  by_cases c : p + nz s p < s.size
  ·have hz : bt s ((p + nz s p : Nat) : Int) ≠ 48 := zc_end s (s.size - p) p (by omega)
   rw [if_pos (by omega), if_pos (by omega), if_neg hz]
  ·rw [if_neg (by omega)]
 ·intro z hz h'
  have hb := zc_lt s (s.size - p) p z (by omega)
  have e3 : wrap64 ((p : Int) + (z : Int)) = ((p + z : Nat) : Int) := by rw [wrap_id (by omega) (by omega)]; omega
  have e4 : wrap64 ((z : Int) + 1) = ((z + 1 : Nat) : Int) := by clear e3; rw [wrap_id (by omega) (by omega)]; omega
  refine Ev.step (fun k => ?_) h'
  simp only [impl_scan_ue.l0, Bool.false_eq_true, if_false]
  rw [e3, e4]
  clear e3 e4
  rw [if_pos (by omega), if_pos (by omega), if_pos hb]
theorem ue_ok (s : ByteArray) (hr : RowR s) (p : Nat) (hp : p ≤ s.size) (h : UeOk s p) : Ev (fun k => impl_scan_ue.f k s (p : Int) false) (ueN s p, s, (ueE s p : Int), false) := by
 obtain ⟨h1, h2, h3⟩ := h
 unfold impl_scan_ue.f
 refine ue_loop s hr p hp _ ?_ 0 (by omega)
 have hf := fix_ev s hr p (2 * nz s p + 1) false hp (by omega) (by omega)
 unfold fixR at hf
 rw [if_pos ⟨rfl, h2⟩] at hf
 have hv := bv_in s hr (2 * nz s p + 1) p 0 h2 (by omega)
 have hw : wrap64 (bv s (2 * nz s p + 1) p 0 - 1) = ueN s p := by
  unfold ueN at h3 ⊢
  exact wrap_id (by omega) (by omega)
 have e1 : wrap64 (wrap64 (2 * (nz s p : Int)) + 1) = ((2 * nz s p + 1 : Nat) : Int) := by clear hw; rw [wrap_id (x := 2 * (nz s p : Int)) (by omega) (by omega), wrap_id (by omega) (by omega)]; omega
 refine Ev.step (fun k => by simp only [impl_scan_ue.j1]; rw [if_neg (by clear hw e1; omega), e1]) (Ev.bind hf ?_)
 have g : ¬ (ueN s p > 1000000) := by clear hw e1; omega
 simp only [Bool.false_eq_true, if_false, hw, g]
 exact Ev.now _
theorem ue_no (s : ByteArray) (hr : RowR s) (p : Nat) (hp : p ≤ s.size) (h : ¬ UeOk s p) : ∃ q : Int, Ev (fun k => impl_scan_ue.f k s (p : Int) false) (0, s, q, true) := by
 have hle := zc_le s (s.size - p) p
 have hn : nz s p = zc s (s.size - p) p := rfl
 have hsz := hr.1
 by_cases h1 : nz s p ≤ 20
 ·have hf := fix_ev s hr p (2 * nz s p + 1) false hp (by omega) (by omega)
  unfold fixR at hf
  have e1 : wrap64 (wrap64 (2 * (nz s p : Int)) + 1) = ((2 * nz s p + 1 : Nat) : Int) := by rw [wrap_id (x := 2 * (nz s p : Int)) (by omega) (by omega), wrap_id (by omega) (by omega)]; omega
  by_cases h2 : p + (2 * nz s p + 1) ≤ s.size
  ·rw [if_pos ⟨rfl, h2⟩] at hf
   have hv := bv_in s hr (2 * nz s p + 1) p 0 h2 (by omega)
   have hb : (2 : Int) ^ (2 * nz s p + 1) ≤ 2 ^ 41 := by
    have := Nat.pow_le_pow_right (show 0 < 2 by omega) (show 2 * nz s p + 1 ≤ 41 by omega)
    exact_mod_cast this
   have hw : wrap64 (bv s (2 * nz s p + 1) p 0 - 1) = ueN s p := by
    unfold ueN
    clear e1
    exact wrap_id (by omega) (by omega)
   have h3 : ueN s p > 1000000 := by
    clear hw e1
    apply Int.not_le.1
    intro h3
    exact h ⟨h1, h2, h3⟩
   refine ⟨((p + (2 * nz s p + 1) : Nat) : Int), ?_⟩
   unfold impl_scan_ue.f
   refine ue_loop s hr p hp _ ?_ 0 (by clear hw e1; omega)
   refine Ev.step (fun k => by simp only [impl_scan_ue.j1]; rw [if_neg (by clear hw e1; omega), e1]) (Ev.bind hf ?_)
   simp only [Bool.false_eq_true, if_false, hw, h3, if_true]
   exact Ev.now _
  ·rw [if_neg (fun hq => h2 hq.2)] at hf
   refine ⟨(p : Int), ?_⟩
   unfold impl_scan_ue.f
   refine ue_loop s hr p hp _ ?_ 0 (by clear e1; omega)
   refine Ev.step (fun k => by simp only [impl_scan_ue.j1]; rw [if_neg (by clear e1; omega), e1]) (Ev.bind hf ?_)
   simp only [if_true]
   exact Ev.now _
 ·refine ⟨(p : Int), ?_⟩
  unfold impl_scan_ue.f
  refine ue_loop s hr p hp _ ?_ 0 (by omega)
  refine Ev.step (fun k => by simp only [impl_scan_ue.j1]; rw [if_pos (by omega)]) (Ev.bind (fixbad_ev s (p : Int) _) ?_)
  simp only [if_true]
  exact Ev.now _
theorem bv_zeros (s : ByteArray) (n : Nat) : ∀ (p m : Nat), (∀ j, j < n → bt s ((p + j : Nat) : Int) = 48) → bv s (n + m) p 0 = bv s m (p + n) 0 := by
 induction n with
 | zero => intro p m _; rw [Nat.zero_add, Nat.add_zero]
 | succ n ih =>
  intro p m h
  have h0 := h 0 (by omega)
  rw [Nat.add_zero] at h0
  rw [show n + 1 + m = (n + m) + 1 by omega, bv, h0, show (2 * (0 : Int) + (48 - 48)) = 0 by omega, show p + (n + 1) = (p + 1) + n by omega]
  exact ih (p + 1) m (fun j hj => by rw [show p + 1 + j = p + (j + 1) by omega]; exact h (j + 1) (by omega))
theorem ueN_nonneg (s : ByteArray) (hr : RowR s) (p : Nat) (hp : p ≤ s.size) (h : UeOk s p) : 0 ≤ ueN s p := by
 have hle := zc_le s (s.size - p) p
 have hn : nz s p = zc s (s.size - p) p := rfl
 have h2 := h.2.1
 unfold ueE at h2
 have hz := bv_zeros s (nz s p) p (nz s p + 1) (fun j hj => zc_lt s (s.size - p) p j (by omega))
 rw [show nz s p + (nz s p + 1) = 2 * nz s p + 1 by omega] at hz
 have hb := hr.2 (p + nz s p) (by omega)
 have h48 : bt s ((p + nz s p : Nat) : Int) ≠ 48 := zc_end s (s.size - p) p (by omega)
 have h49 : bt s ((p + nz s p : Nat) : Int) = 49 := hb.resolve_left h48
 have hge := (bv_in s hr (nz s p) (p + nz s p + 1) (2 * 0 + (49 - 48)) (by omega) (by omega)).1
 have hp : (0 : Int) < 2 ^ nz s p := Int.pow_pos (by omega)
 unfold ueN
 rw [hz, bv, h49]
 omega
def openN (n : Int) : Int := if n % 2 = 1 then (n + 1) / 2 else -(n / 2)
theorem open_eq (n : Int) (h0 : 0 ≤ n) (h1 : n ≤ 1000000) : impl_OpenSe.f n = some (openN n, true) := by
 unfold impl_OpenSe.f openN
 rw [within_eq, Option.bind_some, if_pos (decide_eq_true ⟨h0, h1⟩), Int.tmod_eq_emod_of_nonneg h0]
 by_cases c : n % 2 = 1
 ·rw [if_pos c, if_pos c, wrap_id (x := n + 1) (by omega) (by omega), Int.tdiv_eq_ediv_of_nonneg (by omega), wrap_id (by omega) (by omega)]
 ·rw [if_neg c, if_neg c, wrap_id (x := -n) (by omega) (by omega), Int.neg_tdiv, Int.tdiv_eq_ediv_of_nonneg h0, wrap_id (by omega) (by omega)]
theorem se_ok (s : ByteArray) (hr : RowR s) (p : Nat) (hp : p ≤ s.size) (h : UeOk s p) : Ev (fun k => impl_scan_se.f k s (p : Int) false) (openN (ueN s p), s, (ueE s p : Int), false) := by
 unfold impl_scan_se.f
 refine Ev.bind (ue_ok s hr p hp h) ?_
 simp only [open_eq (ueN s p) (ueN_nonneg s hr p hp h) h.2.2, Option.bind_some, Bool.false_eq_true, if_false, Bool.not_true]
 exact Ev.now _
theorem se_end (s : ByteArray) (p q : Int) (b : Bool) (h : Ev (fun k => impl_scan_ue.f k s p b) (0, s, q, true)) : Ev (fun k => impl_scan_se.f k s p b) (0, s, q, true) := by
 unfold impl_scan_se.f
 refine Ev.bind h ?_
 simp only [open_eq 0 (by omega) (by omega), Option.bind_some, if_true]
 exact Ev.now _
/-- A round of the runs goes on: the gap at p, at place a, and the level behind it. -/
def RunOk (s : ByteArray) (n a p : Nat) : Prop := UeOk s p ∧ (a : Int) + ueN s p < (n : Int) ∧ UeOk s (ueE s p) ∧ openN (ueN s (ueE s p)) ≠ 0 ∧ -5000 ≤ openN (ueN s (ueE s p)) ∧ openN (ueN s (ueE s p)) ≤ 5000
instance (s : ByteArray) (n a p : Nat) : Decidable (RunOk s n a p) := by unfold RunOk; infer_instance
def runsR (s : ByteArray) (n : Nat) : Nat → Nat → Nat → List Int → Option (List Int × Nat)
 | 0, _, p, out => some (out, p)
 | c + 1, a, p, out => if RunOk s n a p then runsR s n c (a + (ueN s p).toNat + 1) (ueE s (ueE s p)) (out.set (a + (ueN s p).toNat) (openN (ueN s (ueE s p)))) else none
theorem runsR_in (s : ByteArray) (hr : RowR s) (n c : Nat) : ∀ (a p : Nat) (out : List Int) (o : List Int) (q : Nat), p ≤ s.size → out.length = n → runsR s n c a p out = some (o, q) → o.length = n ∧ q ≤ s.size := by
 induction c with
 | zero =>
  intro a p out o q hp hl h
  rw [runsR] at h
  injection h with h
  injection h with h1 h2
  subst h1 h2
  exact ⟨hl, hp⟩
 | succ c ih =>
  intro a p out o q hp hl h
  rw [runsR] at h
  by_cases ok : RunOk s n a p
  ·rw [if_pos ok] at h
   exact ih _ _ _ _ _ ok.2.2.1.2.1 (by simp; exact hl) h
  ·rw [if_neg ok] at h
   simp at h
theorem iruns_loop (s : ByteArray) (hr : RowR s) (n : Nat) (hn : n ≤ 64) (c : Nat) : c ≤ 2000000 → ∀ (a p : Nat) (out : List Int), out.length = n → a ≤ n → p ≤ s.size →
  (∀ o q, runsR s n c a p out = some (o, q) → Ev (fun k => impl_scan_runs.l0 k (n : Int) out (a : Int) (c : Int) s (p : Int) false) (o, s, (q : Int), false)) ∧
  (runsR s n c a p out = none → ∃ o q, o.length = n ∧ Ev (fun k => impl_scan_runs.l0 k (n : Int) out (a : Int) (c : Int) s (p : Int) false) (o, s, q, true)) := by
 induction c with
 | zero =>
  intro _ a p out hl ha hp
  refine ⟨?_, fun h => by rw [runsR] at h; simp at h⟩
  intro o q h
  rw [runsR] at h
  injection h with h
  injection h with h1 h2
  subst h1 h2
  refine Ev.step (f := fun k => impl_scan_runs.j1 k (n : Int) out (a : Int) ((0 : Nat) : Int) false s (p : Int) false) (fun k => by simp only [impl_scan_runs.l0]; rw [if_neg (by omega)]) ?_
  exact Ev.step (f := fun _ => some (out, s, (p : Int), false)) (fun k => by simp only [impl_scan_runs.j1, Bool.false_eq_true, if_false]) (Ev.now _)
 | succ c ih =>
  intro hc a p out hl ha hp
  have start : ∀ R, Ev (fun k => impl_scan_runs.j1 k (n : Int) out (a : Int) ((c + 1 : Nat) : Int) true s (p : Int) false) R → Ev (fun k => impl_scan_runs.l0 k (n : Int) out (a : Int) ((c + 1 : Nat) : Int) s (p : Int) false) R := by
   intro R h
   exact Ev.step (fun k => by simp only [impl_scan_runs.l0]; rw [if_pos (by omega)]; rfl) h
  rw [runsR]
  by_cases ok1 : UeOk s p
  ·have r0 := ueN_nonneg s hr p hp ok1
   have r1 := ok1.2.2
   have hE := ok1.2.1
   have hue := ue_ok s hr p hp ok1
   have w1 : wrap64 ((a : Int) + ueN s p) = ((a + (ueN s p).toNat : Nat) : Int) := by rw [wrap_id (by omega) (by omega)]; omega
   by_cases ok2 : UeOk s (ueE s p)
   ·have hse := se_ok s hr (ueE s p) hE ok2
    have hE2 := ok2.2.1
    by_cases c3 : ((a + (ueN s p).toNat : Nat) : Int) ≥ (n : Int)
    ·have hno : ¬ RunOk s n a p := fun h => by have := h.2.1; clear w1; omega
     rw [if_neg hno]
     refine ⟨fun o q h => by simp at h, fun _ => ⟨out, (ueE s (ueE s p) : Int), hl, start _ (Ev.step (fun k => by simp only [impl_scan_runs.j1, if_true]; rfl) (Ev.bind hue (Ev.bind hse ?_)))⟩⟩
     simp only [w1, c3, if_true]
     exact Ev.now _
    ·by_cases c4 : openN (ueN s (ueE s p)) = 0
     ·have hno : ¬ RunOk s n a p := fun h => h.2.2.2.1 c4
      rw [if_neg hno]
      refine ⟨fun o q h => by simp at h, fun _ => ⟨out, (ueE s (ueE s p) : Int), hl, start _ (Ev.step (fun k => by simp only [impl_scan_runs.j1, if_true]; rfl) (Ev.bind hue (Ev.bind hse ?_)))⟩⟩
      simp only [w1, c3, c4, if_true, if_false]
      exact Ev.now _
     ·by_cases c5 : -5000 ≤ openN (ueN s (ueE s p)) ∧ openN (ueN s (ueE s p)) ≤ 5000
      ·have hyes : RunOk s n a p := ⟨ok1, by clear w1; omega, ok2, c4, c5.1, c5.2⟩
       rw [if_pos hyes]
       have w2 : wrap64 (((a + (ueN s p).toNat : Nat) : Int) + 1) = ((a + (ueN s p).toNat + 1 : Nat) : Int) := by clear w1; rw [wrap_id (by omega) (by omega)]; omega
       have w3 : wrap64 (((c + 1 : Nat) : Int) - 1) = (c : Int) := by clear w1 w2; rw [wrap_id (by omega) (by omega)]; omega
       have g1 : (0 : Int) ≤ ((a + (ueN s p).toNat : Nat) : Int) := by clear w1 w2 w3; omega
       have g2 : ((a + (ueN s p).toNat : Nat) : Int) < (out.length : Int) := by clear w1 w2 w3; omega
       have g3 : (((a + (ueN s p).toNat : Nat) : Int)).toNat = a + (ueN s p).toNat := Int.toNat_natCast _
       have h' := ih (by omega) (a + (ueN s p).toNat + 1) (ueE s (ueE s p)) (out.set (a + (ueN s p).toNat) (openN (ueN s (ueE s p)))) (by simp; exact hl) (by clear w1 w2 w3; omega) hE2
       have go : ∀ R, Ev (fun k => impl_scan_runs.l0 k (n : Int) (out.set (a + (ueN s p).toNat) (openN (ueN s (ueE s p)))) ((a + (ueN s p).toNat + 1 : Nat) : Int) (c : Int) s (ueE s (ueE s p) : Int) false) R → Ev (fun k => impl_scan_runs.l0 k (n : Int) out (a : Int) ((c + 1 : Nat) : Int) s (p : Int) false) R := by
        intro R h
        refine start _ (Ev.step (fun k => by simp only [impl_scan_runs.j1, if_true]; rfl) (Ev.bind hue (Ev.bind hse ?_)))
        simp only [w1, c3, c4, if_false, within_eq, Option.bind_some, decide_eq_true c5, if_true, g1, g2, w2, w3, g3]
        exact h
       refine ⟨fun o q h => go _ (h'.1 o q h), fun h => ?_⟩
       obtain ⟨o, q, hlo, e⟩ := h'.2 h
       exact ⟨o, q, hlo, go _ e⟩
      ·have hno : ¬ RunOk s n a p := fun h => c5 ⟨h.2.2.2.2.1, h.2.2.2.2.2⟩
       rw [if_neg hno]
       refine ⟨fun o q h => by simp at h, fun _ => ⟨out, (ueE s (ueE s p) : Int), hl, start _ (Ev.step (fun k => by simp only [impl_scan_runs.j1, if_true]; rfl) (Ev.bind hue (Ev.bind hse ?_)))⟩⟩
       simp only [w1, c3, c4, if_false, within_eq, Option.bind_some, decide_eq_false c5, Bool.false_eq_true]
       exact Ev.now _
   ·have hno : ¬ RunOk s n a p := fun h => ok2 h.2.2.1
    rw [if_neg hno]
    obtain ⟨q, hq⟩ := ue_no s hr (ueE s p) hE ok2
    have hse := se_end s (ueE s p : Int) q false hq
    refine ⟨fun o q h => by simp at h, fun _ => ⟨out, q, hl, start _ (Ev.step (fun k => by simp only [impl_scan_runs.j1, if_true]; rfl) (Ev.bind hue (Ev.bind hse ?_)))⟩⟩
    simp only [if_true, ite_self]
    exact Ev.now _
  ·have hno : ¬ RunOk s n a p := fun h => ok1 h.1
   rw [if_neg hno]
   obtain ⟨q, hq⟩ := ue_no s hr p hp ok1
   have hse := se_end s q q true (uebad_ev s q)
   refine ⟨fun o q h => by simp at h, fun _ => ⟨out, q, hl, start _ (Ev.step (fun k => by simp only [impl_scan_runs.j1, if_true]; rfl) (Ev.bind hq (Ev.bind hse ?_)))⟩⟩
   simp only [if_true, ite_self]
   exact Ev.now _
def outR : Option (List Int × Nat) → List Int × Int × Bool
 | some (o, q) => (o, (q : Int), true)
 | none => ([], 0, false)
def runsAll (s : ByteArray) (p : Nat) (n : Nat) : List Int × Int × Bool := if UeOk s p then outR (runsR s n (ueN s p).toNat 0 (ueE s p) (List.replicate n 0)) else ([], 0, false)
theorem iruns_all (s : ByteArray) (hr : RowR s) (p n : Nat) (hp : p ≤ s.size) (hn : n ≤ 64) :
  ∃ o q b, o.length = n ∧ Ev (fun k => impl_scan_runs.f k s (p : Int) false (n : Int)) (o, s, q, b) ∧ (if b = true then (([] : List Int), (0 : Int), false) else (o, q, true)) = runsAll s p n := by
 have g0 : (0 : Int) ≤ (n : Int) := by omega
 have g1 : n ≤ 35184372088832 := by omega
 unfold impl_scan_runs.f
 simp only [g0, g1, if_true, Int.toNat_natCast]
 unfold runsAll
 by_cases ok : UeOk s p
 ·have h0 := ueN_nonneg s hr p hp ok
  have h1 := ok.2.2
  have hl := iruns_loop s hr n hn (ueN s p).toNat (by omega) 0 (ueE s p) (List.replicate n 0) (by simp) (by omega) ok.2.1
  have e : (((ueN s p).toNat : Nat) : Int) = ueN s p := Int.toNat_of_nonneg h0
  rw [e] at hl
  rw [if_pos ok]
  cases hv : runsR s n (ueN s p).toNat 0 (ueE s p) (List.replicate n 0) with
  | some v =>
   obtain ⟨o, q⟩ := v
   exact ⟨o, q, false, (runsR_in s hr n _ 0 _ _ o q ok.2.1 (by simp) hv).1, Ev.bind (ue_ok s hr p hp ok) (hl.1 o q hv), rfl⟩
  | none =>
   obtain ⟨o, q, hlo, h⟩ := hl.2 hv
   exact ⟨o, q, true, hlo, Ev.bind (ue_ok s hr p hp ok) h, rfl⟩
 ·obtain ⟨q, hq⟩ := ue_no s hr p hp ok
  rw [if_neg ok]
  refine ⟨List.replicate n 0, q, true, by simp, Ev.bind hq ?_, rfl⟩
  refine Ev.step (f := fun k => impl_scan_runs.j1 k (n : Int) (List.replicate n 0) 0 0 false s q true) (fun k => by simp only [impl_scan_runs.l0]; rw [if_neg (by omega)]) ?_
  exact Ev.step (f := fun _ => some (List.replicate n 0, s, q, true)) (fun k => by simp only [impl_scan_runs.j1, Bool.false_eq_true, if_false]) (Ev.now _)
def openB (s : ByteArray) (a : Int) : Bool := rowB s && decide (0 ≤ a ∧ a ≤ (s.size : Int))
theorem opened_ev (s : ByteArray) (a : Int) : Ev (fun k => impl_opened.f k s a) (s, a, !(openB s a)) := by
 unfold impl_opened.f openB
 refine Ev.bind (row_ev s) ?_
 cases rowB s with
 | true => simp only [if_true, within_eq, Option.bind_some, Bool.true_and]; exact Ev.now _
 | false => simp only [Bool.false_eq_true, if_false, Bool.false_and, Bool.not_false]; exact Ev.now _
theorem openB_good {s : ByteArray} {a : Int} (h : openB s a = true) : RowR s ∧ 0 ≤ a ∧ a ≤ (s.size : Int) := by
 unfold openB at h
 rw [Bool.and_eq_true, decide_eq_true_eq] at h
 exact ⟨rowB_at h.1, h.2⟩
theorem iruns_bad (s : ByteArray) (a : Int) (n : Nat) (hn : n ≤ 64) : Ev (fun k => impl_scan_runs.f k s a true (n : Int)) (List.replicate n 0, s, a, true) := by
 have g0 : (0 : Int) ≤ (n : Int) := by omega
 have g1 : n ≤ 35184372088832 := by omega
 unfold impl_scan_runs.f
 simp only [g0, g1, if_true, Int.toNat_natCast]
 refine Ev.bind (uebad_ev s a) ?_
 refine Ev.step (f := fun k => impl_scan_runs.j1 k (n : Int) (List.replicate n 0) 0 0 false s a true) (fun k => by simp only [impl_scan_runs.l0]; rw [if_neg (by omega)]) ?_
 exact Ev.step (f := fun _ => some (List.replicate n 0, s, a, true)) (fun k => by simp only [impl_scan_runs.j1, Bool.false_eq_true, if_false]) (Ev.now _)
def condB (q : Int) (l e : Bool) : Bool := decide (0 ≤ q ∧ q ≤ 40) && !(l && e)
theorem cond_val (a : Bool) (q : Int) (l e : Bool) : impl_CondOk.f a q l e = some (condB q l e) := by
 unfold impl_CondOk.f condB
 rw [within_eq, Option.bind_some]
 by_cases c : 0 ≤ q ∧ q ≤ 40
 ·simp only [c, and_self, decide_true, if_true, Bool.true_and]
  cases l <;> cases e <;> rfl
 ·simp only [c, decide_false, Bool.false_eq_true, if_false, Bool.false_and]
/-- One row of runs of n numbers, from p on. -/
def runsO (s : ByteArray) (n p : Nat) : Option (List Int × Nat) := if UeOk s p then runsR s n (ueN s p).toNat 0 (ueE s p) (List.replicate n 0) else none
theorem runsAll_eq (s : ByteArray) (n p : Nat) : runsAll s p n = outR (runsO s n p) := by
 unfold runsAll runsO
 by_cases c : UeOk s p
 ·rw [if_pos c, if_pos c]
 ·rw [if_neg c, if_neg c]; rfl
theorem runsO_in {s : ByteArray} (hr : RowR s) {n p : Nat} {o : List Int} {q : Nat} (hp : p ≤ s.size) (h : runsO s n p = some (o, q)) : o.length = n ∧ q ≤ s.size := by
 unfold runsO at h
 by_cases c : UeOk s p
 ·rw [if_pos c] at h
  exact runsR_in s hr n _ 0 _ _ o q c.2.1 (by simp) h
 ·rw [if_neg c] at h; cases h
/-- d rows of sixteen, one behind the other, behind what out has. -/
def fourR (s : ByteArray) : Nat → Nat → List Int → Option (List Int × Nat)
 | 0, p, out => some (out, p)
 | d + 1, p, out => (runsO s 16 p).bind fun v => fourR s d v.2 (out ++ v.1)
def levelsR (s : ByteArray) (large ex : Bool) (p : Nat) : Option (List Int × Nat) := if large = true ∨ ex = true then runsO s 64 p else fourR s 4 p []
theorem iruns_good {s : ByteArray} (hr : RowR s) {p n : Nat} (hp : p ≤ s.size) (hn : n ≤ 64) {o : List Int} {q : Nat} (h : runsO s n p = some (o, q)) : Ev (fun k => impl_scan_runs.f k s (p : Int) false (n : Int)) (o, s, (q : Int), false) := by
 obtain ⟨o', q', b, hlo, e, hv⟩ := iruns_all s hr p n hp hn
 rw [runsAll_eq, h] at hv
 cases b with
 | true => simp [outR] at hv
 | false =>
  simp only [Bool.false_eq_true, if_false, outR, Prod.mk.injEq] at hv
  obtain ⟨rfl, rfl, _⟩ := hv
  exact e
theorem iruns_none {s : ByteArray} (hr : RowR s) {p n : Nat} (hp : p ≤ s.size) (hn : n ≤ 64) (h : runsO s n p = none) : ∃ o q, o.length = n ∧ Ev (fun k => impl_scan_runs.f k s (p : Int) false (n : Int)) (o, s, q, true) := by
 obtain ⟨o', q', b, hlo, e, hv⟩ := iruns_all s hr p n hp hn
 rw [runsAll_eq, h] at hv
 cases b with
 | true => exact ⟨o', q', hlo, e⟩
 | false => simp [outR] at hv
/-- The signs B stand in s from p on. -/
def At (s : ByteArray) : Nat → List Int → Prop
 | p, [] => p ≤ s.size
 | p, x :: B => bt s (p : Int) = x ∧ At s (p + 1) B
theorem at_le {s : ByteArray} (B : List Int) : ∀ p, At s p B → p + B.length ≤ s.size := by
 induction B with
 | nil => intro p h; rw [List.length_nil]; exact h
 | cons x B ih => intro p h; have := ih (p + 1) h.2; rw [List.length_cons]; omega
theorem at_append {s : ByteArray} (A B : List Int) : ∀ p, At s p (A ++ B) → At s p A ∧ At s (p + A.length) B := by
 induction A with
 | nil =>
  intro p h
  rw [List.nil_append] at h
  have := at_le B p h
  exact ⟨show p ≤ s.size by omega, by rw [List.length_nil, Nat.add_zero]; exact h⟩
 | cons x A ih =>
  intro p h
  rw [List.cons_append] at h
  have h2 := ih (p + 1) h.2
  refine ⟨⟨h.1, h2.1⟩, ?_⟩
  rw [List.length_cons, show p + (A.length + 1) = p + 1 + A.length by omega]
  exact h2.2
theorem at_str {L : List Int} (hL : ∀ y ∈ L, y = 48 ∨ y = 49) (B : List Int) : ∀ A, L = A ++ B → At (strOfNums L) A.length B := by
 induction B with
 | nil => intro A h; show A.length ≤ (strOfNums L).size; rw [strOfNums_size, h]; simp
 | cons x B ih =>
  intro A h
  refine ⟨?_, ?_⟩
  ·rw [← rd_bytesOf, bytes_row hL, h]
   unfold rd
   simp
  ·have := ih (A ++ [x]) (by rw [h]; simp)
   rw [List.length_append] at this
   exact this
theorem bv_last (s : ByteArray) (n : Nat) : ∀ (p : Nat) (a : Int), bv s (n + 1) p a = 2 * bv s n p a + (bt s ((p + n : Nat) : Int) - 48) := by
 induction n with
 | zero => intro p a; rw [bv, bv, bv, Nat.add_zero]
 | succ n ih => intro p a; rw [bv, ih (p + 1), bv, show p + 1 + n = p + (n + 1) by omega]
theorem bv_fix {s : ByteArray} (w : Nat) : ∀ (x p : Nat), At s p (fixL x w) → bv s w p 0 = ((x % 2 ^ w : Nat) : Int) := by
 induction w with
 | zero => intro x p _; rw [bv, Nat.pow_zero, Nat.mod_one]; rfl
 | succ w ih =>
  intro x p h
  rw [fixL] at h
  obtain ⟨h1, h2⟩ := at_append _ _ p h
  rw [fixL_len] at h2
  rw [bv_last, ih _ p h1, h2.1, Nat.pow_succ, Nat.mul_comm (2 ^ w) 2, Nat.mod_mul]
  omega
theorem figs_pow (w : Nat) : ∀ x, x < 2 ^ w → w ≤ 63 → x < 2 ^ figs x := by
 induction w with
 | zero =>
  intro x h _; have : x = 0 := by simpa using h
  subst this; rw [figs_zero]; decide
 | succ w ih =>
  intro x h hw
  by_cases c : x = 0
  ·subst c; rw [figs_zero]; decide
  ·have hlt : x < 2 ^ 64 := Nat.lt_of_lt_of_le h (Nat.pow_le_pow_right (by omega) (by omega))
   rw [figs_half (by omega) hlt, Nat.pow_succ]
   rw [Nat.pow_succ] at h
   have := ih (x / 2) (by omega) (by omega)
   omega
theorem fixL_head (w : Nat) : ∀ x, 0 < x → x < 2 ^ w → w ≤ 63 → ∃ R, fixL x (figs x) = 49 :: R := by
 induction w with
 | zero =>
  intro x h0 h _; have : x = 0 := by simpa using h
  omega
 | succ w ih =>
  intro x h0 h hw
  have hlt : x < 2 ^ 64 := Nat.lt_of_lt_of_le h (Nat.pow_le_pow_right (by omega) (by omega))
  rw [figs_half h0 hlt, fixL]
  rw [Nat.pow_succ] at h
  by_cases c : x / 2 = 0
  ·have : x = 1 := by omega
   subst this
   exact ⟨[], rfl⟩
  ·obtain ⟨R, e⟩ := ih (x / 2) (by omega) (by omega) (by omega)
   exact ⟨R ++ [48 + ((x % 2 : Nat) : Int)], by rw [e]; rfl⟩
theorem zc_rep {s : ByteArray} (z : Nat) : ∀ (n p : Nat) (R : List Int), At s p (List.replicate z 48 ++ 49 :: R) → z < n → zc s n p = z := by
 induction z with
 | zero =>
  intro n p R h hn
  obtain ⟨m, rfl⟩ : ∃ m, n = m + 1 := ⟨n - 1, by omega⟩
  have e : bt s (p : Int) = 49 := h.1
  rw [zc, if_neg (by omega)]
 | succ z ih =>
  intro n p R h hn
  obtain ⟨m, rfl⟩ : ∃ m, n = m + 1 := ⟨n - 1, by omega⟩
  rw [List.replicate_succ, List.cons_append] at h
  have e : bt s (p : Int) = 48 := h.1
  rw [zc, if_pos e, ih m (p + 1) R h.2 (by omega)]
theorem figs_small {x w : Nat} (h : x < 2 ^ w) (hw : w ≤ 64) : figs x ≤ w := by
 unfold figs
 rw [figsF_lt w x h 64 hw]
 exact figsF_le w x
/-- What ueL writes is read back. -/
theorem ue_back {s : ByteArray} {p n : Nat} (hn : n ≤ 1000000) (h : At s p (ueL n)) : UeOk s p ∧ ueN s p = (n : Int) ∧ ueE s p = p + (ueL n).length := by
 have hlt : n + 1 < 2 ^ 20 := by omega
 have hf := figs_small hlt (by omega)
 have h1 : 0 < figs (n + 1) := figs_pos (by omega) (by omega)
 have hp := figs_pow 20 (n + 1) hlt (by omega)
 have hle := at_le _ p h
 have hlen : (ueL n).length = 2 * figs (n + 1) - 1 := by unfold ueL; rw [fixL_len]
 have hv : bv s (2 * figs (n + 1) - 1) p 0 = ((n + 1 : Nat) : Int) := by
  rw [bv_fix _ (n + 1) p (by unfold ueL at h; exact h), Nat.mod_eq_of_lt]
  exact Nat.lt_of_lt_of_le hp (Nat.pow_le_pow_right (by omega) (by omega))
 have hz : nz s p = figs (n + 1) - 1 := by
  rw [ueL_eq n (by omega)] at h
  obtain ⟨R, e⟩ := fixL_head 20 (n + 1) (by omega) hlt (by omega)
  rw [e] at h
  unfold nz
  exact zc_rep _ _ p R h (by omega)
 have hN : ueN s p = (n : Int) := by
  unfold ueN
  rw [hz, show 2 * (figs (n + 1) - 1) + 1 = 2 * figs (n + 1) - 1 by omega, hv]
  omega
 have hE : ueE s p = p + (ueL n).length := by unfold ueE; rw [hz, hlen]; omega
 exact ⟨⟨by omega, by omega, by rw [hN]; omega⟩, hN, hE⟩
theorem open_fold {x : Int} (h : -5000 ≤ x ∧ x ≤ 5000) : openN ((foldN x : Nat) : Int) = x := by
 unfold openN foldN
 by_cases c : x > 0
 ·rw [if_pos c]
  have e : (((2 * x - 1).toNat : Nat) : Int) = 2 * x - 1 := Int.toNat_of_nonneg (by omega)
  rw [e, if_pos (by omega)]
  omega
 ·rw [if_neg c]
  have e : (((-2 * x).toNat : Nat) : Int) = -2 * x := Int.toNat_of_nonneg (by omega)
  rw [e, if_neg (by omega)]
  omega
theorem set_done (d : List Int) (m : Nat) (x : Int) : (d ++ List.replicate (m + 1) 0).set d.length x = (d ++ [x]) ++ List.replicate m 0 := by
 rw [List.set_append_right _ _ (Nat.le_refl _), Nat.sub_self, List.replicate_succ, List.set_cons_zero]
 simp
theorem runs_back {s : ByteArray} (n : Nat) (hn : n ≤ 64) (l : List Int) (hb : ∀ x ∈ l, -5000 ≤ x ∧ x ≤ 5000) : ∀ (d : List Int) (a z p : Nat), a + z = d.length → d.length + l.length = n → At s p (rtL z l) →
  runsR s n (cntN l) a p (d ++ List.replicate l.length 0) = some (d ++ l, p + (rtL z l).length) := by
 induction l with
 | nil =>
  intro d a z p _ _ _
  simp [cntN, rtL, runsR]
 | cons x l ih =>
  intro d a z p ha hd h
  rw [List.length_cons] at hd
  have hb' : ∀ y ∈ l, -5000 ≤ y ∧ y ≤ 5000 := fun y hy => hb y (List.mem_cons_of_mem _ hy)
  by_cases c : x = 0
  ·subst c
   have e : rtL z (0 :: l) = rtL (z + 1) l := by rw [rtL, if_pos rfl]
   rw [e] at h ⊢
   have ec : cntN (0 :: l) = cntN l := by rw [cntN_cons]; simp [isnz]
   have hi := ih hb' (d ++ [0]) a (z + 1) p (by rw [List.length_append]; simp; omega) (by rw [List.length_append]; simp; omega) h
   rw [ec, List.length_cons, List.replicate_succ]
   rw [List.append_assoc, List.append_assoc] at hi
   exact hi
  ·have e : rtL z (x :: l) = ueL z ++ (ueL (foldN x) ++ rtL 0 l) := by rw [rtL, if_neg c]
   rw [e] at h ⊢
   obtain ⟨h1, h2⟩ := at_append _ _ p h
   obtain ⟨h3, h4⟩ := at_append _ _ _ h2
   obtain ⟨o1, v1, e1⟩ := ue_back (by omega) h1
   have hx := hb x (List.mem_cons_self ..)
   have hfl : foldN x ≤ 1000000 := fold_lt (by omega) (by omega)
   rw [← e1] at h3 h4
   obtain ⟨o2, v2, e2⟩ := ue_back hfl h3
   have ho := open_fold hx
   have ok : RunOk s n a p := ⟨o1, by rw [v1]; omega, o2, by rw [v2, ho]; exact c, by rw [v2, ho]; exact hx.1, by rw [v2, ho]; exact hx.2⟩
   have ec : cntN (x :: l) = cntN l + 1 := by rw [cntN_cons]; unfold isnz; rw [if_neg c]; omega
   rw [ec, runsR, if_pos ok, v1, v2, ho, e2, Int.toNat_natCast, ha, List.length_cons, set_done]
   rw [show ueE s p + (ueL (foldN x)).length = ueE s p + (ueL (foldN x)).length from rfl]
   have hi := ih hb' (d ++ [x]) (d.length + 1) 0 (ueE s p + (ueL (foldN x)).length) (by rw [List.length_append]; simp) (by rw [List.length_append]; simp; omega) h4
   rw [hi, e1]
   simp only [List.append_assoc, List.length_append, Option.some.injEq, Prod.mk.injEq]
   exact ⟨rfl, by omega⟩
/-- What runsL writes is read back. -/
theorem runsO_back {s : ByteArray} {p : Nat} {l : List Int} (hl : l.length ≤ 64) (hb : ∀ x ∈ l, -5000 ≤ x ∧ x ≤ 5000) (h : At s p (runsL l)) : runsO s l.length p = some (l, p + (runsL l).length) := by
 unfold runsL at h
 obtain ⟨h1, h2⟩ := at_append _ _ p h
 have hc := cntN_le l
 obtain ⟨o1, v1, e1⟩ := ue_back (by omega) h1
 rw [← e1] at h2
 unfold runsO
 have hi := runs_back l.length hl l hb [] 0 0 (ueE s p) rfl (by simp) h2
 rw [if_pos o1, v1, Int.toNat_natCast]
 rw [List.nil_append, List.nil_append] at hi
 rw [hi, e1]
 unfold runsL
 rw [List.length_append]
 simp only [Option.some.injEq, Prod.mk.injEq, true_and]
 omega
theorem signB_of {s : ByteArray} (n : Nat) : ∀ i, (∀ j, i ≤ j → j < i + n → bt s (j : Int) = 48 ∨ bt s (j : Int) = 49) → signB s n i = true := by
 induction n with
 | zero => intro i _; rfl
 | succ n ih =>
  intro i h
  rw [signB, ih (i + 1) (fun j h1 h2 => h j (by omega) (by omega)), Bool.and_true]
  rcases h i (by omega) (by omega) with e | e
  ·rw [decide_eq_true e]; rfl
  ·rw [decide_eq_true e, Bool.or_true]
theorem rowB_str {L : List Int} (hL : ∀ y ∈ L, y = 48 ∨ y = 49) (hl : L.length ≤ 400000) : rowB (strOfNums L) = true := by
 unfold rowB
 rw [strOfNums_size, decide_eq_true hl, Bool.true_and]
 refine signB_of _ _ fun j _ h => ?_
 rw [← rd_bytesOf, bytes_row hL]
 unfold rd
 rw [Int.toNat_natCast, List.getD_eq_getElem?_getD, List.getElem?_eq_getElem (by omega)]
 exact hL _ (List.getElem_mem _)
theorem rtL_mem (l : List Int) : ∀ z, ∀ y ∈ rtL z l, y = 48 ∨ y = 49 := by
 induction l with
 | nil => intro z y hy; simp [rtL] at hy
 | cons x l ih =>
  intro z y hy
  rw [rtL] at hy
  by_cases c : x = 0
  ·rw [if_pos c] at hy; exact ih _ y hy
  ·rw [if_neg c] at hy
   rcases List.mem_append.1 hy with h | h
   ·exact ueL_mem _ y h
   ·rcases List.mem_append.1 h with h | h
    ·exact ueL_mem _ y h
    ·exact ih _ y h
theorem runsL_mem (l : List Int) : ∀ y ∈ runsL l, y = 48 ∨ y = 49 := by
 intro y hy
 unfold runsL at hy
 rcases List.mem_append.1 hy with h | h
 ·exact ueL_mem _ y h
 ·exact rtL_mem l 0 y h
theorem len_decs (l : List Int) (n : Nat) (m : Int) (h : m = (n : Int)) : decide ((l.length : Int) = m) = decide (l.length = n) := by rw [decide_eq_decide]; omega
def levB (l : List Int) : Bool := decide (l.length = 64) && allB (-5000) 5000 l
/-- What a right square is. -/
def sqB (kd mode dx dy : Int) (l : List Int) : Bool :=
 if kd = 0 then decide (mode = 0) && (decide (dx = 0) && (decide (dy = 0) && decide (l.length = 0)))
 else if kd = 1 then decide (mode = 0) && (decide (-16 ≤ dx ∧ dx ≤ 16) && (decide (-16 ≤ dy ∧ dy ≤ 16) && levB l))
 else if kd = 2 then decide (0 ≤ mode ∧ mode ≤ 3) && (decide (dx = 0) && (decide (dy = 0) && levB l))
 else false
theorem levels_ev (l : List Int) (hl : l.length ≤ 17592186043904) : Ev (fun k => impl_areLevels.f k l) (levB l) := by
 unfold impl_areLevels.f levB
 have h := areIn_ev l 64 (-5000) 5000 hl
 rw [len_decs l 64 64 rfl] at h
 exact Ev.bind h (Ev.now _)
theorem len0 (l : List Int) : ((l.length : Int) == 0) = decide (l.length = 0) := by
 rw [Bool.eq_iff_iff, beq_iff_eq, decide_eq_true_eq]; omega
theorem sqok_ev (kd mode dx dy : Int) (l : List Int) (hl : l.length ≤ 17592186043904) : Ev (fun k => impl_SquareOk.f k kd mode dx dy l) (sqB kd mode dx dy l) := by
 have hL := levels_ev l hl
 unfold impl_SquareOk.f sqB
 simp only [within_eq, Option.bind_some, len0]
 by_cases k0 : kd = 0
 ·simp only [if_pos k0]
  by_cases a : mode = 0 <;> by_cases b : dx = 0 <;> by_cases c : dy = 0 <;> simp only [a, b, c, if_true, if_false, decide_true, decide_false, Bool.true_and, Bool.false_and] <;> exact Ev.now _
 ·by_cases k1 : kd = 1
  ·simp only [if_neg k0, if_pos k1]
   by_cases a : mode = 0
   ·by_cases b : -16 ≤ dx ∧ dx ≤ 16
    ·by_cases c : -16 ≤ dy ∧ dy ≤ 16
     ·simp only [a, b, c, and_self, if_true, decide_true, Bool.true_and]
      exact Ev.bind hL (Ev.now _)
     ·simp only [a, b, c, and_self, if_true, decide_true, decide_false, Bool.true_and, Bool.false_and, Bool.false_eq_true, if_false]; exact Ev.now _
    ·simp only [a, b, if_true, decide_true, decide_false, Bool.true_and, Bool.false_and, Bool.false_eq_true, if_false]; exact Ev.now _
   ·simp only [a, decide_false, Bool.false_and, if_false]; exact Ev.now _
  ·by_cases k2 : kd = 2
   ·simp only [if_neg k0, if_neg k1, if_pos k2]
    by_cases a : 0 ≤ mode ∧ mode ≤ 3
    ·by_cases b : dx = 0
     ·by_cases c : dy = 0
      ·simp only [a, b, c, and_self, if_true, decide_true, Bool.true_and]
       exact Ev.bind hL (Ev.now _)
      ·simp only [a, b, c, and_self, if_true, decide_true, decide_false, Bool.true_and, Bool.false_and, Bool.false_eq_true, if_false]; exact Ev.now _
     ·simp only [a, b, and_self, if_true, decide_true, decide_false, Bool.true_and, Bool.false_and, Bool.false_eq_true, if_false]; exact Ev.now _
    ·simp only [a, decide_false, Bool.false_and, Bool.false_eq_true, if_false]; exact Ev.now _
   ·simp only [if_neg k0, if_neg k1, if_neg k2]; exact Ev.now _
/-- The sixteen levels of quarter i. -/
def qtr (l : List Int) (i : Nat) : List Int := (l.take (16 * i + 16)).drop (16 * i)
theorem qtr_len {l : List Int} (h : l.length = 64) (i : Nat) (hi : i < 4) : (qtr l i).length = 16 := by
 unfold qtr; rw [List.length_drop, List.length_take]; omega
theorem allB_sub {lo hi : Int} {l m : List Int} (h : allB lo hi l = true) (hs : ∀ x ∈ m, x ∈ l) : allB lo hi m = true := allB_iff.2 fun x hx => allB_iff.1 h x (hs x hx)
theorem qtr_all {l : List Int} {lo hi : Int} (h : allB lo hi l = true) (i : Nat) : allB lo hi (qtr l i) = true :=
 allB_sub h fun _ hx => List.mem_of_mem_take (List.mem_of_mem_drop hx)
def qrows (l : List Int) : Nat → List Int
 | 0 => []
 | n + 1 => qrows l n ++ runsL (qtr l n)
def lrL (l : List Int) (large exact_ : Bool) : List Int := if (large || exact_) = true then runsL l else qrows l 4
theorem runsL_len (l : List Int) : (runsL l).length ≤ 127 + 254 * l.length := by
 unfold runsL
 have h1 := ueL_len (cntN l)
 have h2 := rtL_len l 0
 rw [List.length_append]; omega
theorem qrows_len {l : List Int} (h : l.length = 64) (n : Nat) (hn : n ≤ 4) : (qrows l n).length ≤ 5000 * n := by
 induction n with
 | zero => simp [qrows]
 | succ n ih =>
  have h1 := ih (by omega)
  have h2 := runsL_len (qtr l n)
  rw [qtr_len h n (by omega)] at h2
  simp only [qrows, List.length_append]; omega
theorem lr_loop (l : List Int) (hl : l.length = 64) (hb : allB (-5000) 5000 l = true) : ∀ i : Nat, i ≤ 4 → Ev (fun k => impl_levelsRow.l0 k l (qrows l i) (i : Int)) (qrows l 4) := by
 refine down 4 ?_ ?_
 ·refine Ev.step (f := fun _ => some (qrows l 4)) (fun k => ?_) (Ev.now _)
  simp only [impl_levelsRow.l0]
  rw [if_neg (by omega)]
 ·intro i hi h
  have hq := runs_ev (qtr l i) (by rw [qtr_len hl i hi]; omega) (qtr_all hb i)
  have l1 := qrows_len hl i (by omega)
  have l2 := runsL_len (qtr l i)
  rw [qtr_len hl i hi] at l2
  refine Ev.step (f := fun k => (impl_runs.f k (qtr l i)).bind fun t => (if (qrows l i).length + t.length < 140737488355328 then (impl_levelsRow.l0 k l (qrows l i ++ t) ((i + 1 : Nat) : Int)) else (none))) (fun k => ?_) (Ev.bind hq ?_)
  ·simp only [impl_levelsRow.l0]
   rw [if_pos (by omega), wrap_id (x := 16 * (i : Int)) (by omega) (by omega), if_pos (by omega), wrap_id (x := 16 * (i : Int) + 16) (by omega) (by omega), if_pos (by omega), if_pos (by omega), wrap_id (x := (i : Int) + 1) (by omega) (by omega), cast1, show (16 * (i : Int) + 16).toNat = 16 * i + 16 by omega, show (16 * (i : Int)).toNat = 16 * i by omega]
   rfl
  ·refine Ev.congr (fun k => ?_) h
   rw [if_pos (by omega)]; rfl
theorem lr_ev (l : List Int) (a : Bool) (q : Int) (large ex : Bool) (hl : l.length = 64) (hb : allB (-5000) 5000 l = true) : Ev (fun k => impl_levelsRow.f k l a q large ex) (lrL l large ex) := by
 unfold impl_levelsRow.f lrL
 have h1 : Ev (fun k => impl_levelsRow.j0 k l true) (runsL l) := Ev.step (fun k => by simp only [impl_levelsRow.j0, if_true] <;> rfl) (Ev.bind (runs_ev l (by omega) hb) (Ev.now _))
 have h2 : Ev (fun k => impl_levelsRow.j0 k l false) (qrows l 4) := Ev.step (fun k => by simp only [impl_levelsRow.j0, Bool.false_eq_true, if_false]; rfl) (lr_loop l hl hb 0 (by omega))
 cases large <;> cases ex
 ·simpa using h2
 ·simpa using h1
 ·simpa using h1
 ·simpa using h1
theorem levB_iff {l : List Int} : levB l = true ↔ l.length = 64 ∧ allB (-5000) 5000 l = true := by unfold levB; rw [Bool.and_eq_true, decide_eq_true_eq]
def qt (l : List Int) : Nat → Nat → List Int
 | _, 0 => []
 | i, d + 1 => runsL (qtr l i) ++ qt l (i + 1) d
theorem qrows_qt (l : List Int) : qrows l 4 = qt l 0 4 := by
 simp only [qrows, qt, List.nil_append, List.append_nil, List.append_assoc]
theorem take_qtr (l : List Int) (i : Nat) : l.take (16 * i) ++ qtr l i = l.take (16 * (i + 1)) := by
 unfold qtr
 have e : l.take (16 * i) = (l.take (16 * i + 16)).take (16 * i) := by rw [List.take_take, Nat.min_eq_left (by omega)]
 rw [e, List.take_append_drop, show 16 * (i + 1) = 16 * i + 16 by omega]
theorem qtr_in {l : List Int} (hb : ∀ x ∈ l, -5000 ≤ x ∧ x ≤ 5000) (i : Nat) : ∀ x ∈ qtr l i, -5000 ≤ x ∧ x ≤ 5000 := fun x hx => hb x (List.mem_of_mem_take (List.mem_of_mem_drop hx))
theorem four_back {s : ByteArray} {l : List Int} (hl : l.length = 64) (hb : ∀ x ∈ l, -5000 ≤ x ∧ x ≤ 5000) (d : Nat) : ∀ (i p : Nat), i + d = 4 → At s p (qt l i d) → fourR s d p (l.take (16 * i)) = some (l, p + (qt l i d).length) := by
 induction d with
 | zero =>
  intro i p hi _
  rw [fourR, qt, List.length_nil, Nat.add_zero, List.take_of_length_le (by omega)]
 | succ d ih =>
  intro i p hi h
  rw [qt] at h ⊢
  obtain ⟨h1, h2⟩ := at_append _ _ p h
  have hq := qtr_len hl i (by omega)
  have e := runsO_back (by omega) (qtr_in hb i) h1
  rw [hq] at e
  rw [fourR, e, Option.bind_some, take_qtr, ih (i + 1) _ (by omega) h2, List.length_append, Nat.add_assoc]
theorem levels_back {s : ByteArray} {p : Nat} {l : List Int} (large ex : Bool) (hl : l.length = 64) (hb : ∀ x ∈ l, -5000 ≤ x ∧ x ≤ 5000) (h : At s p (lrL l large ex)) : levelsR s large ex p = some (l, p + (lrL l large ex).length) := by
 unfold levelsR
 unfold lrL at h ⊢
 by_cases c : large = true ∨ ex = true
 ·have c' : (large || ex) = true := by rcases c with c | c <;> rw [c] <;> simp
  rw [if_pos c'] at h ⊢
  rw [if_pos c]
  have e := runsO_back (by omega) hb h
  rw [hl] at e
  exact e
 ·have c' : ¬ (large || ex) = true := by
   intro h'
   rw [Bool.or_eq_true] at h'
   exact c h'
  rw [if_neg c'] at h ⊢
  rw [if_neg c]
  rw [qrows_qt] at h ⊢
  have e := four_back hl hb 4 0 p (by omega) h
  rw [Nat.mul_zero, List.take_zero] at e
  exact e
theorem lrL_mem (l : List Int) (large ex : Bool) : ∀ y ∈ lrL l large ex, y = 48 ∨ y = 49 := by
 intro y hy
 unfold lrL at hy
 split at hy
 ·exact runsL_mem _ y hy
 ·simp only [qrows, List.nil_append] at hy
  rcases List.mem_append.1 hy with h | h
  ·rcases List.mem_append.1 h with h | h
   ·rcases List.mem_append.1 h with h | h
    ·exact runsL_mem _ y h
    ·exact runsL_mem _ y h
   ·exact runsL_mem _ y h
  ·exact runsL_mem _ y h
theorem ilev_bad (s : ByteArray) (d : Nat) : ∀ (i : Nat) (out : List Int) (a : Int), i + d = 4 → out.length ≤ 16 * i → ∃ o, Ev (fun k => impl_scan_levels.l0 k out (i : Int) s a true) (o, s, a, true) := by
 induction d with
 | zero =>
  intro i out a hi hl
  refine ⟨out, Ev.step (f := fun _ => some (out, s, a, true)) (fun k => ?_) (Ev.now _)⟩
  simp only [impl_scan_levels.l0]
  rw [if_neg (by omega)]
 | succ d ih =>
  intro i out a hi hl
  obtain ⟨o, h⟩ := ih (i + 1) (out ++ List.replicate 16 0) a (by omega) (by rw [List.length_append, List.length_replicate]; omega)
  refine ⟨o, Ev.step (fun k => by simp only [impl_scan_levels.l0]; rw [if_pos (by omega)]) (Ev.bind (show Ev (fun k => impl_scan_runs.f k s a true 16) (List.replicate 16 0, s, a, true) from iruns_bad s a 16 (by omega)) ?_)⟩
  have e2 : wrap64 ((i : Int) + 1) = ((i + 1 : Nat) : Int) := by rw [wrap_id (by omega) (by omega)]; omega
  have g : out.length + (List.replicate 16 (0 : Int)).length < 17592186044416 := by rw [List.length_replicate]; omega
  simp only [e2, g, if_true]
  exact h
theorem ilev_loop (s : ByteArray) (hr : RowR s) (d : Nat) : ∀ (i p : Nat) (out : List Int), i + d = 4 → out.length ≤ 16 * i → p ≤ s.size →
  (∀ o q, fourR s d p out = some (o, q) → Ev (fun k => impl_scan_levels.l0 k out (i : Int) s (p : Int) false) (o, s, (q : Int), false)) ∧
  (fourR s d p out = none → ∃ o q, Ev (fun k => impl_scan_levels.l0 k out (i : Int) s (p : Int) false) (o, s, q, true)) := by
 induction d with
 | zero =>
  intro i p out hi hl hp
  rw [fourR]
  refine ⟨fun o q h => ?_, fun h => by cases h⟩
  cases h
  refine Ev.step (f := fun _ => some (out, s, (p : Int), false)) (fun k => ?_) (Ev.now _)
  simp only [impl_scan_levels.l0]
  rw [if_neg (by omega)]
 | succ d ih =>
  intro i p out hi hl hp
  rw [fourR]
  have e2 : wrap64 ((i : Int) + 1) = ((i + 1 : Nat) : Int) := by rw [wrap_id (by omega) (by omega)]; omega
  cases hv : runsO s 16 p with
  | none =>
   refine ⟨fun o q h => (by cases h), fun _ => ?_⟩
   obtain ⟨o1, q1, hl1, h1'⟩ := iruns_none (n := 16) hr hp (by omega) hv
   have h1 : Ev (fun k => impl_scan_runs.f k s (p : Int) false 16) (o1, s, q1, true) := h1'
   obtain ⟨o, h2⟩ := ilev_bad s d (i + 1) (out ++ o1) q1 (by omega) (by rw [List.length_append]; omega)
   have g : out.length + o1.length < 17592186044416 := by omega
   refine ⟨o, q1, Ev.step (fun k => by simp only [impl_scan_levels.l0]; rw [if_pos (by omega)]) (Ev.bind h1 ?_)⟩
   simp only [e2, g, if_true]
   exact h2
  | some v =>
   obtain ⟨o1, q1⟩ := v
   have h1 : Ev (fun k => impl_scan_runs.f k s (p : Int) false 16) (o1, s, (q1 : Int), false) := iruns_good (n := 16) hr hp (by omega) hv
   have hi1 := runsO_in hr hp hv
   have hn := ih (i + 1) q1 (out ++ o1) (by omega) (by rw [List.length_append]; omega) hi1.2
   have g : out.length + o1.length < 17592186044416 := by omega
   refine ⟨fun o q h => ?_, fun h => ?_⟩
   ·refine Ev.step (fun k => by simp only [impl_scan_levels.l0]; rw [if_pos (by omega)]) (Ev.bind h1 ?_)
    simp only [e2, g, if_true]
    exact hn.1 o q h
   ·obtain ⟨o, q, h2⟩ := hn.2 h
    refine ⟨o, q, Ev.step (fun k => by simp only [impl_scan_levels.l0]; rw [if_pos (by omega)]) (Ev.bind h1 ?_)⟩
    simp only [e2, g, if_true]
    exact h2
/-- What levels answers, of a state that is not bad. -/
theorem ilevels_ev (s : ByteArray) (hr : RowR s) (c : Bool) (q : Int) (large ex : Bool) (p : Nat) (hp : p ≤ s.size) :
  ∃ o r b, Ev (fun k => impl_scan_levels.f k s (p : Int) false c q large ex) (o, s, r, b) ∧ (if b = true then (([] : List Int), (0 : Int), false) else (o, r, true)) = outR (levelsR s large ex p) := by
 have h64 : ∃ o r b, Ev (fun k => impl_scan_levels.j0 k true s (p : Int) false) (o, s, r, b) ∧ (if b = true then (([] : List Int), (0 : Int), false) else (o, r, true)) = outR (runsO s 64 p) := by
  obtain ⟨o, r, b, _, e, hv⟩ := iruns_all s hr p 64 hp (by omega)
  rw [runsAll_eq] at hv
  exact ⟨o, r, b, Ev.step (fun k => by simp only [impl_scan_levels.j0, if_true]; rfl) (Ev.bind e (Ev.now _)), hv⟩
 have h16 : ∃ o r b, Ev (fun k => impl_scan_levels.j0 k false s (p : Int) false) (o, s, r, b) ∧ (if b = true then (([] : List Int), (0 : Int), false) else (o, r, true)) = outR (fourR s 4 p []) := by
  have hl := ilev_loop s hr 4 0 p [] (by omega) (by simp) hp
  cases hv : fourR s 4 p [] with
  | none =>
   obtain ⟨o, r, e⟩ := hl.2 hv
   exact ⟨o, r, true, Ev.step (fun k => by simp only [impl_scan_levels.j0, Bool.false_eq_true, if_false]; rfl) e, rfl⟩
  | some v =>
   obtain ⟨o, r⟩ := v
   exact ⟨o, r, false, Ev.step (fun k => by simp only [impl_scan_levels.j0, Bool.false_eq_true, if_false]; rfl) (hl.1 o r hv), rfl⟩
 unfold impl_scan_levels.f levelsR
 cases large <;> cases ex <;> simp only [if_true, Bool.false_eq_true, if_false, or_self, or_true, true_or] <;> assumption
theorem ilevels_good {s : ByteArray} (hr : RowR s) (c : Bool) (q : Int) (large ex : Bool) {p : Nat} (hp : p ≤ s.size) {o : List Int} {r : Nat} (h : levelsR s large ex p = some (o, r)) : Ev (fun k => impl_scan_levels.f k s (p : Int) false c q large ex) (o, s, (r : Int), false) := by
 obtain ⟨o', r', b, e, hv⟩ := ilevels_ev s hr c q large ex p hp
 rw [h] at hv
 cases b with
 | true => simp [outR] at hv
 | false =>
  simp only [Bool.false_eq_true, if_false, outR, Prod.mk.injEq] at hv
  obtain ⟨rfl, rfl, _⟩ := hv
  exact e
def sqL (key : Bool) (kd mode dx dy : Int) (l : List Int) (large ex : Bool) : List Int :=
 (if key = true then [] else ueL kd.toNat) ++ (if kd = 1 then ueL (foldN dx) ++ (ueL (foldN dy) ++ lrL l large ex) else if kd = 2 then ueL mode.toNat ++ lrL l large ex else [])
def sqLetB (key : Bool) (kd mode dx dy : Int) (l : List Int) (q : Int) (large ex : Bool) : Bool := sqB kd mode dx dy l && (condB q large ex && (!key || decide (kd = 2)))
def sqrv (key : Bool) (kd mode dx dy : Int) (l : List Int) (q : Int) (large ex : Bool) : ByteArray × Bool := if sqLetB key kd mode dx dy l q large ex = true then (strOfNums (sqL key kd mode dx dy l large ex), true) else (⟨#[]⟩, false)
theorem lrL_len {l : List Int} (h : l.length = 64) (large ex : Bool) : (lrL l large ex).length ≤ 20000 := by
 unfold lrL
 have h1 := runsL_len l
 have h2 := qrows_len h 4 (by omega)
 split <;> omega
theorem sqB_kd {kd mode dx dy : Int} {l : List Int} (h : sqB kd mode dx dy l = true) :
  kd = 0 ∨ (kd = 1 ∧ (-16 ≤ dx ∧ dx ≤ 16) ∧ (-16 ≤ dy ∧ dy ≤ 16) ∧ l.length = 64 ∧ allB (-5000) 5000 l = true) ∨ (kd = 2 ∧ (0 ≤ mode ∧ mode ≤ 3) ∧ l.length = 64 ∧ allB (-5000) 5000 l = true) := by
 unfold sqB at h
 by_cases k0 : kd = 0
 ·exact .inl k0
 ·by_cases k1 : kd = 1
  ·rw [if_neg k0, if_pos k1] at h
   simp only [Bool.and_eq_true, decide_eq_true_eq] at h
   exact .inr (.inl ⟨k1, h.2.1, h.2.2.1, (levB_iff.1 h.2.2.2).1, (levB_iff.1 h.2.2.2).2⟩)
  ·by_cases k2 : kd = 2
   ·rw [if_neg k0, if_neg k1, if_pos k2] at h
    simp only [Bool.and_eq_true, decide_eq_true_eq] at h
    exact .inr (.inr ⟨k2, h.1, (levB_iff.1 h.2.2.2).1, (levB_iff.1 h.2.2.2).2⟩)
   ·rw [if_neg k0, if_neg k1, if_neg k2] at h
    cases h
theorem ueN_ev (n : Int) (h : 0 ≤ n ∧ n ≤ 1000000) : (((n.toNat : Nat) : Int) = n) := Int.toNat_of_nonneg h.1
theorem serow_ev (x : Int) (h : -16 ≤ x ∧ x ≤ 16) : Ev (fun k => impl_SeRow.f k x) (strOfNums (ueL (foldN x)), true) := by
 unfold impl_SeRow.f
 have hf := fold_lt (x := x) (by omega) (by omega)
 have g : (0 : Int) ≤ ((foldN x : Nat) : Int) ∧ ((foldN x : Nat) : Int) ≤ 1000000 := by omega
 simp only [fold_eq x (by omega) (by omega), Option.bind_some, if_true, impl_UeRow.f, within_eq, decide_eq_true g]
 exact Ev.bind (Ev.bind (ue_ev (foldN x) (by omega)) (Ev.now _)) (Ev.now _)
theorem iue_ev (n : Int) (h : 0 ≤ n ∧ n ≤ 1000000) : Ev (fun k => impl_ue.f k n) (strOfNums (ueL n.toNat)) := by
 have e := ue_ev n.toNat (by omega)
 rwa [ueN_ev n h] at e
theorem sqj1_ev (key : Bool) (kd mode dx dy : Int) (l : List Int) (q : Int) (large ex : Bool) (pre : List Int) (hp : pre.length ≤ 1000) (h : sqB kd mode dx dy l = true) :
  Ev (fun k => impl_SquareRow.j1 k pre kd mode dx dy l key q large ex) (strOfNums (pre ++ (if kd = 1 then ueL (foldN dx) ++ (ueL (foldN dy) ++ lrL l large ex) else if kd = 2 then ueL mode.toNat ++ lrL l large ex else [])), true) := by
 rcases sqB_kd h with e | ⟨e, hx, hy, hl, hb⟩ | ⟨e, hm, hl, hb⟩
 ·subst e
  refine Ev.step (f := fun _ => some (strOfNums pre, true)) (fun k => ?_) ?_
  ·simp only [impl_SquareRow.j1]
   rfl
  ·rw [if_neg (by omega), if_neg (by omega), List.append_nil]
   exact Ev.now _
 ·subst e
  have e1 := serow_ev dx hx
  have e2 := serow_ev dy hy
  have e3 := lr_ev l key q large ex hl hb
  have l1 := ueL_len (foldN dx)
  have l2 := ueL_len (foldN dy)
  have l3 := lrL_len hl large ex
  have b1 := bytes_row (ueL_mem (foldN dx))
  have b2 := bytes_row (ueL_mem (foldN dy))
  have g1 : pre.length + (strOfNums (ueL (foldN dx))).size < 140737488355328 := by rw [strOfNums_size]; omega
  have g2 : (pre ++ ueL (foldN dx)).length + (strOfNums (ueL (foldN dy))).size < 140737488355328 := by rw [strOfNums_size, List.length_append]; omega
  have g3 : (pre ++ ueL (foldN dx) ++ ueL (foldN dy)).length + (lrL l large ex).length < 140737488355328 := by rw [List.length_append, List.length_append]; omega
  refine Ev.step (fun k => by simp only [impl_SquareRow.j1, if_true]; rfl) (Ev.bind e1 (Ev.bind e2 ?_))
  simp only [g1, b1, if_true, Option.bind_some, g2, b2]
  refine Ev.bind e3 ?_
  simp only [g3, if_true]
  rw [List.append_assoc, List.append_assoc]
  exact Ev.now _
 ·subst e
  have e1 := iue_ev mode (by omega)
  have e3 := lr_ev l key q large ex hl hb
  have l1 := ueL_len mode.toNat
  have l3 := lrL_len hl large ex
  have b1 := bytes_row (ueL_mem mode.toNat)
  have g1 : pre.length + (strOfNums (ueL mode.toNat)).size < 140737488355328 := by rw [strOfNums_size]; omega
  have g3 : (pre ++ ueL mode.toNat).length + (lrL l large ex).length < 140737488355328 := by rw [List.length_append]; omega
  refine Ev.step (fun k => by simp only [impl_SquareRow.j1]; rw [if_neg (by omega), if_pos trivial]) (Ev.bind e1 ?_)
  simp only [g1, b1, if_true, Option.bind_some]
  refine Ev.bind e3 ?_
  simp only [g3, if_true]
  rw [if_neg (by omega), List.append_assoc]
  exact Ev.now _
theorem sqrow_ev (key : Bool) (kd mode dx dy : Int) (l : List Int) (q : Int) (large ex : Bool) (hl : l.length ≤ 17592186043904) : Ev (fun k => impl_SquareRow.f k kd mode dx dy l key q large ex) (sqrv key kd mode dx dy l q large ex) := by
 have hbad : Ev (fun k => impl_SquareRow.j0 k true kd mode dx dy l key q large ex) (⟨#[]⟩, false) := Ev.step (f := fun _ => some (⟨#[]⟩, false)) (fun k => by simp only [impl_SquareRow.j0, if_true]) (Ev.now _)
 unfold impl_SquareRow.f sqrv sqLetB
 refine Ev.bind (sqok_ev kd mode dx dy l hl) ?_
 cases h1 : sqB kd mode dx dy l with
 | false => simp only [Bool.false_eq_true, if_false, Bool.false_and]; exact hbad
 | true =>
  simp only [if_true, cond_val, Option.bind_some, Bool.true_and]
  cases h2 : condB q large ex with
  | false => simp only [Bool.false_eq_true, if_false, Bool.false_and]; exact hbad
  | true =>
   simp only [if_true, Bool.true_and]
   have hp := ueL_len kd.toNat
   have hk : 0 ≤ kd ∧ kd ≤ 1000000 := by rcases sqB_kd h1 with e | e | e <;> omega
   unfold sqL
   cases key with
   | true =>
    by_cases c : kd = 2
    ·have hb : (!(kd == 2)) = false := by rw [c]; rfl
     simp only [impl_Square_let.f, if_true, Option.bind_some, hb, decide_eq_true c, Bool.or_true]
     refine Ev.step (fun k => by simp only [impl_SquareRow.j0, Bool.false_eq_true, if_false, Option.bind_some, if_true]; rfl) ?_
     exact sqj1_ev true kd mode dx dy l q large ex [] (by simp) h1
    ·have hb : (!(kd == 2)) = true := by simp [c]
     simp only [impl_Square_let.f, if_true, Option.bind_some, hb, decide_eq_false c, Bool.or_false, Bool.not_true, Bool.false_eq_true, if_false]
     exact hbad
   | false =>
    simp only [impl_Square_let.f, Bool.false_eq_true, if_false, Option.bind_some, Bool.not_true, Bool.not_false, Bool.true_or, if_true]
    have g : ([] : List Int).length + (strOfNums (ueL kd.toNat)).size < 140737488355328 := by rw [strOfNums_size]; simp; omega
    refine Ev.step (fun k => by simp only [impl_SquareRow.j0, Bool.false_eq_true, if_false, Option.bind_some]; rfl) (Ev.bind (iue_ev kd hk) ?_)
    simp only [g, if_true, bytes_row (ueL_mem kd.toNat), List.nil_append]
    exact sqj1_ev false kd mode dx dy l q large ex (ueL kd.toNat) (by omega) h1
/-- A square and the condition that lets it be. -/
def SqGood (key : Bool) (kd mode dx dy : Int) (l : List Int) : Prop := sqB kd mode dx dy l = true ∧ (key = true → kd = 2)
theorem sqL_mem (key : Bool) (kd mode dx dy : Int) (l : List Int) (large ex : Bool) : ∀ y ∈ sqL key kd mode dx dy l large ex, y = 48 ∨ y = 49 := by
 intro y hy
 unfold sqL at hy
 rcases List.mem_append.1 hy with h | h
 ·split at h
  ·simp at h
  ·exact ueL_mem _ y h
 ·split at h
  ·rcases List.mem_append.1 h with h | h
   ·exact ueL_mem _ y h
   ·rcases List.mem_append.1 h with h | h
    ·exact ueL_mem _ y h
    ·exact lrL_mem _ _ _ y h
  ·split at h
   ·rcases List.mem_append.1 h with h | h
    ·exact ueL_mem _ y h
    ·exact lrL_mem _ _ _ y h
   ·simp at h
theorem sqL_len {key : Bool} {kd mode dx dy : Int} {l : List Int} (large ex : Bool) (h : sqB kd mode dx dy l = true) : (sqL key kd mode dx dy l large ex).length ≤ 21000 := by
 unfold sqL
 have h0 := ueL_len kd.toNat
 have h1 := ueL_len (foldN dx)
 have h2 := ueL_len (foldN dy)
 have h3 := ueL_len mode.toNat
 rw [List.length_append]
 have hf : (if key = true then ([] : List Int) else ueL kd.toNat).length ≤ 127 := by
  cases key with
  | true => exact Nat.zero_le _
  | false => exact h0
 generalize (if key = true then ([] : List Int) else ueL kd.toNat) = pre at hf ⊢
 rcases sqB_kd h with e | ⟨e, _, _, hl, _⟩ | ⟨e, _, hl, _⟩
 ·subst e
  rw [if_neg (by omega), if_neg (by omega), List.length_nil]
  omega
 ·subst e
  have := lrL_len hl large ex
  rw [if_pos rfl, List.length_append, List.length_append]
  omega
 ·subst e
  have := lrL_len hl large ex
  rw [if_neg (by omega), if_pos rfl, List.length_append]
  omega
theorem sqB_zero {mode dx dy : Int} {l : List Int} (h : sqB 0 mode dx dy l = true) : mode = 0 ∧ dx = 0 ∧ dy = 0 ∧ l = [] := by
 unfold sqB at h
 rw [if_pos rfl] at h
 simp only [Bool.and_eq_true, decide_eq_true_eq] at h
 exact ⟨h.1, h.2.1, h.2.2.1, List.eq_nil_of_length_eq_zero h.2.2.2⟩
theorem sqB_one {mode dx dy : Int} {l : List Int} (h : sqB 1 mode dx dy l = true) : mode = 0 := by
 unfold sqB at h
 rw [if_neg (by omega), if_pos rfl] at h
 simp only [Bool.and_eq_true, decide_eq_true_eq] at h
 exact h.1
theorem sqB_two {mode dx dy : Int} {l : List Int} (h : sqB 2 mode dx dy l = true) : dx = 0 ∧ dy = 0 := by
 unfold sqB at h
 rw [if_neg (by omega), if_neg (by omega), if_pos rfl] at h
 simp only [Bool.and_eq_true, decide_eq_true_eq] at h
 exact ⟨h.2.1, h.2.2.1⟩
theorem sqj0_back {s : ByteArray} (hr : RowR s) (key : Bool) (q : Int) (large ex : Bool) {kd mode dx dy : Int} {l : List Int} (h : sqB kd mode dx dy l = true) {p : Nat}
  (ha : At s p (if kd = 1 then ueL (foldN dx) ++ (ueL (foldN dy) ++ lrL l large ex) else if kd = 2 then ueL mode.toNat ++ lrL l large ex else [])) :
  Ev (fun k => impl_scan_square.j0 k s (p : Int) false key q large ex kd 0 0 0) (kd, mode, dx, dy, l, s, ((p + (if kd = 1 then ueL (foldN dx) ++ (ueL (foldN dy) ++ lrL l large ex) else if kd = 2 then ueL mode.toNat ++ lrL l large ex else []).length : Nat) : Int), false) := by
 have hp0 := at_le _ p ha
 have hsz := hr.1
 rcases sqB_kd h with e | ⟨e, hx, hy, hl, hb⟩ | ⟨e, hm, hl, hb⟩
 ·subst e
  obtain ⟨rfl, rfl, rfl, rfl⟩ := sqB_zero h
  have eo := sqok_ev 0 0 0 0 [] (by simp)
  rw [h] at eo
  refine Ev.step (fun k => by simp only [impl_scan_square.j0, Bool.false_eq_true, if_false]; rw [if_neg (by omega), if_neg (by omega)]) (Ev.bind eo ?_)
  rw [if_neg (by omega), if_neg (by omega), List.length_nil, Nat.add_zero]
  exact Ev.now _
 ·subst e
  obtain rfl := sqB_one h
  rw [if_pos rfl] at ha hp0 ⊢
  obtain ⟨h1, h2⟩ := at_append _ _ p ha
  obtain ⟨h3, h4⟩ := at_append _ _ _ h2
  have f1 := fold_lt (x := dx) (by omega) (by omega)
  have f2 := fold_lt (x := dy) (by omega) (by omega)
  obtain ⟨o1, v1, e1⟩ := ue_back f1 h1
  rw [← e1] at h3 h4
  obtain ⟨o2, v2, e2⟩ := ue_back f2 h3
  rw [← e2] at h4
  have s1 := se_ok s hr p (by omega) o1
  rw [v1, open_fold (by omega)] at s1
  have s2 := se_ok s hr (ueE s p) o1.2.1 o2
  rw [v2, open_fold (by omega)] at s2
  have hlv := levels_back large ex hl (allB_iff.1 hb) h4
  have s3 := ilevels_good hr key q large ex o2.2.1 hlv
  have eo := sqok_ev 1 0 dx dy l (by omega)
  rw [h] at eo
  refine Ev.step (fun k => by simp only [impl_scan_square.j0, Bool.false_eq_true, if_false, if_true]; rfl) (Ev.bind s1 (Ev.bind s2 (Ev.bind s3 ?_)))
  simp only [Bool.false_eq_true, if_false]
  refine Ev.bind eo ?_
  simp only [Bool.not_true]
  rw [List.length_append, List.length_append, e2, e1, show p + ((ueL (foldN dx)).length + ((ueL (foldN dy)).length + (lrL l large ex).length)) = p + (ueL (foldN dx)).length + (ueL (foldN dy)).length + (lrL l large ex).length by omega]
  exact Ev.now _
 ·subst e
  obtain ⟨rfl, rfl⟩ := sqB_two h
  rw [if_neg (by omega), if_pos rfl] at ha hp0 ⊢
  obtain ⟨h1, h2⟩ := at_append _ _ p ha
  obtain ⟨o1, v1, e1⟩ := ue_back (n := mode.toNat) (by omega) h1
  rw [← e1] at h2
  have s1 := ue_ok s hr p (by omega) o1
  rw [v1, Int.toNat_of_nonneg hm.1] at s1
  have hlv := levels_back large ex hl (allB_iff.1 hb) h2
  have s3 := ilevels_good hr key q large ex o1.2.1 hlv
  have eo := sqok_ev 2 mode 0 0 l (by omega)
  rw [h] at eo
  refine Ev.step (fun k => by simp only [impl_scan_square.j0, Bool.false_eq_true, if_false]; rw [if_neg (by omega), if_pos trivial]) (Ev.bind s1 (Ev.bind s3 ?_))
  simp only [Bool.false_eq_true, if_false]
  refine Ev.bind eo ?_
  simp only [Bool.not_true]
  rw [List.length_append, e1, show p + ((ueL mode.toNat).length + (lrL l large ex).length) = p + (ueL mode.toNat).length + (lrL l large ex).length by omega]
  exact Ev.now _
/-- What sqL writes is read back. -/
theorem square_back {s : ByteArray} (hr : RowR s) (key : Bool) (q : Int) (large ex : Bool) {kd mode dx dy : Int} {l : List Int} (h : SqGood key kd mode dx dy l) {p : Nat} (ha : At s p (sqL key kd mode dx dy l large ex)) :
  Ev (fun k => impl_scan_square.f k s (p : Int) false key q large ex) (kd, mode, dx, dy, l, s, ((p + (sqL key kd mode dx dy l large ex).length : Nat) : Int), false) := by
 unfold impl_scan_square.f
 unfold sqL at ha ⊢
 have hp0 := at_le _ p ha
 cases key with
 | true =>
  have hk := h.2 rfl
  simp only [if_true, List.nil_append] at ha ⊢
  have e := sqj0_back hr true q large ex h.1 ha
  rw [hk] at e ⊢
  exact e
 | false =>
  simp only [Bool.false_eq_true, if_false] at ha ⊢
  obtain ⟨h1, h2⟩ := at_append _ _ p ha
  have hk : 0 ≤ kd ∧ kd ≤ 1000000 := by rcases sqB_kd h.1 with e | e | e <;> omega
  obtain ⟨o1, v1, e1⟩ := ue_back (n := kd.toNat) (by omega) h1
  rw [← e1] at h2
  have s1 := ue_ok s hr p (by omega) o1
  rw [v1, Int.toNat_of_nonneg hk.1] at s1
  refine Ev.bind s1 ?_
  have e := sqj0_back hr false q large ex h.1 h2
  rw [List.length_append, ← Nat.add_assoc, ← e1]
  exact e
theorem byte_at (b : List Int) (hb : b.length ≤ 140737488351232) (i h : Int) (h0 : 0 ≤ i) (h1 : i ≤ (b.length : Int)) :
  ∃ x i' h', spec_l01Byte.f b i h = some (x, i', h') ∧ 0 ≤ x ∧ x ≤ 255 ∧ 0 ≤ i' ∧ i' ≤ (b.length : Int) := by
 unfold spec_l01Byte.f
 by_cases c : i < (b.length : Int)
 ·rw [if_pos c, if_pos h0]
  exact ⟨_, _, _, rfl, (and_le _ 255 (by decide)).1, (and_le _ 255 (by decide)).2, by rw [wrap_id (by omega) (by omega)]; omega, by rw [wrap_id (by omega) (by omega)]; omega⟩
 ·rw [if_neg c]
  exact ⟨_, _, _, rfl, (and_le _ 255 (by decide)).1, (and_le _ 255 (by decide)).2, h0, h1⟩
theorem below_at (b : List Int) (hb : b.length ≤ 140737488351232) (i h n : Int) (h0 : 0 ≤ i) (h1 : i ≤ (b.length : Int)) (hn : 0 < n) :
  ∃ x i' h', spec_l01Below.f b i h n = some (x, i', h') ∧ 0 ≤ x ∧ x < n ∧ 0 ≤ i' ∧ i' ≤ (b.length : Int) := by
 unfold spec_l01Below.f
 rw [if_neg (by omega)]
 obtain ⟨x, i1, s1, e1, x0, x1, p1, q1⟩ := byte_at b hb i h h0 h1
 by_cases c : n ≤ 256
 ·rw [if_pos c, e1, Option.bind_some, if_neg (by omega)]
  exact ⟨_, _, _, rfl, by simp only [Int.tmod_eq_emod_of_nonneg x0]; exact Int.emod_nonneg _ (by omega), by simp only [Int.tmod_eq_emod_of_nonneg x0]; exact Int.emod_lt_of_pos _ hn, p1, q1⟩
 ·obtain ⟨y, i2, s2, e2, y0, y1, p2, q2⟩ := byte_at b hb i1 s1 p1 q1
  obtain ⟨z, i3, s3, e3, z0, z1, p3, q3⟩ := byte_at b hb i2 s2 p2 q2
  obtain ⟨w, i4, s4, e4, w0, w1, p4, q4⟩ := byte_at b hb i3 s3 p3 q3
  rw [if_neg c, e1, Option.bind_some]
  simp only []
  rw [e2, Option.bind_some]
  simp only []
  rw [e3, Option.bind_some]
  simp only []
  rw [e4, Option.bind_some, if_neg (by omega)]
  have hs : wrap64 (wrap64 (wrap64 (wrap64 (x * 16777216) + wrap64 (y * 65536)) + wrap64 (z * 256)) + w) = x * 16777216 + y * 65536 + z * 256 + w := by
   rw [wrap_id (x := x * 16777216) (by omega) (by omega), wrap_id (x := y * 65536) (by omega) (by omega), wrap_id (x := z * 256) (by omega) (by omega), wrap_id (x := x * 16777216 + y * 65536) (by omega) (by omega), wrap_id (x := x * 16777216 + y * 65536 + z * 256) (by omega) (by omega), wrap_id (by omega) (by omega)]
  refine ⟨_, _, _, rfl, ?_, ?_, p4, q4⟩
  ·simp only [hs]; rw [Int.tmod_eq_emod_of_nonneg (by omega)]; exact Int.emod_nonneg _ (by omega)
  ·simp only [hs]; rw [Int.tmod_eq_emod_of_nonneg (by omega)]; exact Int.emod_lt_of_pos _ hn
theorem new_loop (l : List Int) (hl : l.length ≤ 140737488351232) (d : Nat) : ∀ h i : Int, 0 ≤ i → (l.length : Int) - i = d → ∃ h', Ev (fun k => spec_l01New.l0 k l h i) (l, 0, h') := by
 induction d with
 | zero =>
  intro h i h0 hd
  exact ⟨h, Ev.step (f := fun _ => some (l, 0, h)) (fun k => by simp only [spec_l01New.l0]; rw [if_neg (by omega)]) (Ev.now _)⟩
 | succ d ih =>
  intro h i h0 hd
  by_cases c : i < 4000
  ·obtain ⟨h', e⟩ := ih (Go.bits .and .i64 (wrap64 ((wrap64 ((wrap64 (h * 131)) + (wrap64 (rd l i)))) + 7)) 1073741823) (i + 1) (by omega) (by omega)
   refine ⟨h', Ev.step (fun k => ?_) e⟩
   simp only [spec_l01New.l0]
   rw [if_pos (by omega), if_pos c, if_pos h0, wrap_id (x := i + 1) (by omega) (by omega)]
  ·exact ⟨h, Ev.step (f := fun _ => some (l, 0, h)) (fun k => by simp only [spec_l01New.l0]; rw [if_pos (by omega), if_neg c]) (Ev.now _)⟩
theorem new_ev (l : List Int) (hl : l.length ≤ 140737488351232) : ∃ h, Ev (fun k => spec_l01New.f k l) (l, 0, h) := by
 obtain ⟨h, e⟩ := new_loop l hl l.length (wrap64 (94701 + (l.length : Int))) 0 (by omega) (by omega)
 exact ⟨h, e⟩
theorem once_at (b : List Int) (hb : b.length ≤ 140737488351232) (i h n : Int) (h0 : 0 ≤ i) (h1 : i ≤ (b.length : Int)) (hn : 0 < n) :
  ∃ x i' h', spec_l01Once.f b i h n = some (x, i', h') ∧ 0 ≤ i' ∧ i' ≤ (b.length : Int) := by
 obtain ⟨x, i', h', e, _, _, p, q⟩ := below_at b hb i h n h0 h1 hn
 exact ⟨_, _, _, by unfold spec_l01Once.f; rw [e]; rfl, p, q⟩
def LevL (n : Nat) (l : List Int) : Prop := l.length = n ∧ ∀ x ∈ l, -5000 ≤ x ∧ x ≤ 5000
theorem levL_set {n : Nat} {l : List Int} (h : LevL n l) (i : Nat) {v : Int} (hv : -5000 ≤ v ∧ v ≤ 5000) : LevL n (l.set i v) :=
 ⟨by rw [List.length_set]; exact h.1, fun x hx => by
  rcases List.mem_or_eq_of_mem_set hx with h1 | h1
  ·exact h.2 x h1
  ·subst h1; exact hv⟩
theorem lev_j2 (b : List Int) (hb : b.length ≤ 140737488351232) (n : Nat) (hn : n = 16 ∨ n = 64) (out : List Int) (ho : LevL n out) (i x : Int) (hx : 0 ≤ x) (hx1 : x < (n : Int)) (p h : Int) (h0 : 0 ≤ p) (h1 : p ≤ (b.length : Int))
  (hh : ∀ out' : List Int, LevL n out' → ∀ p' h' : Int, 0 ≤ p' → p' ≤ (b.length : Int) → ∃ r p'' h'', Ev (fun k => spec_l11Levels.l0 k (n : Int) out' (wrap64 (i + 1)) b p' h') (r, p'', h'') ∧ LevL n r ∧ 0 ≤ p'' ∧ p'' ≤ (b.length : Int)) :
  ∃ r p'' h'', Ev (fun k => spec_l11Levels.j2 k (n : Int) out i x b p h) (r, p'', h'') ∧ LevL n r ∧ 0 ≤ p'' ∧ p'' ≤ (b.length : Int) := by
 obtain ⟨y, p1, h1', e1, y0, y1, a0, a1⟩ := below_at b hb p h 21 h0 h1 (by omega)
 have wy : -5000 ≤ wrap64 (y - 10) ∧ wrap64 (y - 10) ≤ 5000 := by rw [wrap_id (by omega) (by omega)]; omega
 obtain ⟨z, p2, h2', e2, b0, b1⟩ := once_at b hb p1 h1' 6 a0 a1 (by omega)
 cases z with
 | true =>
  obtain ⟨u, p3, h3', e3, u0, u1, c0, c1⟩ := below_at b hb p2 h2' 10001 b0 b1 (by omega)
  have wu : -5000 ≤ wrap64 (u - 5000) ∧ wrap64 (u - 5000) ≤ 5000 := by rw [wrap_id (by omega) (by omega)]; omega
  obtain ⟨r, p'', h'', er, lr⟩ := hh ((out.set x.toNat (wrap64 (y - 10))).set x.toNat (wrap64 (u - 5000))) (levL_set (levL_set ho _ wy) _ wu) p3 h3' c0 c1
  refine ⟨r, p'', h'', Ev.step (fun k => ?_) er, lr⟩
  simp only [spec_l11Levels.j2]
  rw [e1, Option.bind_some, if_pos hx, if_pos (by have := ho.1; omega), Option.bind_some, e2, Option.bind_some, if_pos rfl, e3, Option.bind_some]
 | false =>
  obtain ⟨r, p'', h'', er, lr⟩ := hh (out.set x.toNat (wrap64 (y - 10))) (levL_set ho _ wy) p2 h2' b0 b1
  refine ⟨r, p'', h'', Ev.step (fun k => ?_) er, lr⟩
  simp only [spec_l11Levels.j2]
  rw [e1, Option.bind_some, if_pos hx, if_pos (by have := ho.1; omega), Option.bind_some, e2, Option.bind_some, if_neg (by simp)]
theorem lev_l0 (b : List Int) (hb : b.length ≤ 140737488351232) (n : Nat) (hn : n = 16 ∨ n = 64) (d : Nat) : ∀ (i : Int), 0 ≤ i → 7 - i ≤ (d : Int) → i ≤ 7 → ∀ out' : List Int, LevL n out' → ∀ p' h' : Int, 0 ≤ p' → p' ≤ (b.length : Int) → ∃ r p'' h'', Ev (fun k => spec_l11Levels.l0 k (n : Int) out' i b p' h') (r, p'', h'') ∧ LevL n r ∧ 0 ≤ p'' ∧ p'' ≤ (b.length : Int) := by
 induction d with
 | zero =>
  intro i hi hd hi7 out ho p h h0 h1
  obtain ⟨x, p1, h1', e1, x0, x1, a0, a1⟩ := below_at b hb p h 7 h0 h1 (by omega)
  have hj : Ev (fun k => spec_l11Levels.j1 k (n : Int) out i false b p1 h1') (out, p1, h1') := Ev.step (f := fun _ => some (out, p1, h1')) (fun k => by simp only [spec_l11Levels.j1]; rfl) (Ev.now _)
  refine ⟨out, p1, h1', Ev.step (fun k => ?_) hj, ho, a0, a1⟩
  simp only [spec_l11Levels.l0]
  rw [e1, Option.bind_some, if_neg (by omega)]
 | succ d ih =>
  intro i hi hd hi7 out ho p h h0 h1
  obtain ⟨x, p1, h1', e1, x0, x1, a0, a1⟩ := below_at b hb p h 7 h0 h1 (by omega)
  by_cases c : i < x
  ·obtain ⟨y, p2, h2', e2, y0, y1, b0, b1⟩ := below_at b hb p1 h1' (n : Int) a0 a1 (by omega)
   obtain ⟨z, p3, h3', e3, c0, c1⟩ := once_at b hb p2 h2' 2 b0 b1 (by omega)
   have w : wrap64 (i + 1) = i + 1 := wrap_id (by omega) (by omega)
   have hh := ih (i + 1) (by clear w; omega) (by clear w; omega) (by clear w; omega)
   rw [← w] at hh
   have hd' : decide ((n : Int) > 0) = true := decide_eq_true (by clear w; omega)
   have ht : Int.tmod y 5 = y % 5 := Int.tmod_eq_emod_of_nonneg y0
   cases z with
   | true =>
    obtain ⟨r, p'', h'', er, lr⟩ := lev_j2 b hb n hn out ho i (y % 5) (by clear w ht; omega) (by clear w ht; omega) p3 h3' c0 c1 hh
    refine ⟨r, p'', h'', Ev.step (f := fun k => spec_l11Levels.j1 k (n : Int) out i true b p1 h1') (fun k => ?_) (Ev.step (fun k => ?_) er), lr⟩
    ·simp only [spec_l11Levels.l0]
     rw [e1, Option.bind_some, if_pos c, hd']
    ·simp only [spec_l11Levels.j1]
     rw [if_pos trivial, e2, Option.bind_some, e3, Option.bind_some, if_pos rfl, ht]
   | false =>
    obtain ⟨r, p'', h'', er, lr⟩ := lev_j2 b hb n hn out ho i y y0 y1 p3 h3' c0 c1 hh
    refine ⟨r, p'', h'', Ev.step (f := fun k => spec_l11Levels.j1 k (n : Int) out i true b p1 h1') (fun k => ?_) (Ev.step (fun k => ?_) er), lr⟩
    ·simp only [spec_l11Levels.l0]
     rw [e1, Option.bind_some, if_pos c, hd']
    ·simp only [spec_l11Levels.j1]
     rw [if_pos trivial, e2, Option.bind_some, e3, Option.bind_some, if_neg (by simp)]
  ·have hj : Ev (fun k => spec_l11Levels.j1 k (n : Int) out i false b p1 h1') (out, p1, h1') := Ev.step (f := fun _ => some (out, p1, h1')) (fun k => by simp only [spec_l11Levels.j1]; rfl) (Ev.now _)
   refine ⟨out, p1, h1', Ev.step (fun k => ?_) hj, ho, a0, a1⟩
   simp only [spec_l11Levels.l0]
   rw [e1, Option.bind_some, if_neg c]
theorem levels_at (b : List Int) (hb : b.length ≤ 140737488351232) (p h : Int) (h0 : 0 ≤ p) (h1 : p ≤ (b.length : Int)) :
  ∃ r p' h', Ev (fun k => spec_l11Levels.f k b p h 64) (r, p', h') ∧ LevL 64 r ∧ 0 ≤ p' ∧ p' ≤ (b.length : Int) := by
 obtain ⟨r, p', h', er, lr⟩ := lev_l0 b hb 64 (.inr rfl) 7 0 (by omega) (by omega) (by omega) (List.replicate 64 0) ⟨by simp, fun x hx => by have := List.eq_of_mem_replicate hx; omega⟩ p h h0 h1
 refine ⟨r, p', h', ?_, lr⟩
 unfold spec_l11Levels.f
 refine Ev.congr (fun k => ?_) er
 rw [if_pos (by omega), if_pos (by omega)]; rfl
theorem par_at (b : List Int) (hb : b.length ≤ 140737488351232) (p h : Int) (h0 : 0 ≤ p) (h1 : p ≤ (b.length : Int)) :
  ∃ q l e z p' h', spec_l05ParRight.f b p h = some (q, l, e, z, p', h') ∧ condB q l e = true ∧ 0 ≤ p' ∧ p' ≤ (b.length : Int) := by
 obtain ⟨x, p1, h1', e1, x0, x1, a0, a1⟩ := below_at b hb p h 41 h0 h1 (by omega)
 obtain ⟨y, p2, h2', e2, b0, b1⟩ := once_at b hb p1 h1' 4 a0 a1 (by omega)
 obtain ⟨z, p3, h3', e3, z0, z1, c0, c1⟩ := below_at b hb p2 h2' 3 b0 b1 (by omega)
 have hc : ∀ l e : Bool, (l && e) = false → condB x l e = true := by
  intro l e h
  unfold condB
  rw [decide_eq_true (by omega), h]
  rfl
 unfold spec_l05ParRight.f
 simp only [e1, e2, e3, Option.bind_some]
 by_cases d0 : z = 0
 ·simp only [d0, if_true]; exact ⟨_, _, _, _, _, _, rfl, hc _ _ rfl, c0, c1⟩
 ·by_cases d1 : z = 1
  ·simp only [d1, if_true]; exact ⟨_, _, _, _, _, _, rfl, hc _ _ rfl, c0, c1⟩
  ·simp only [d0, d1, if_false]; exact ⟨_, _, _, _, _, _, rfl, hc _ _ rfl, c0, c1⟩
theorem cond_at (b : List Int) (hb : b.length ≤ 140737488351232) (p h : Int) (h0 : 0 ≤ p) (h1 : p ≤ (b.length : Int)) :
  ∃ a q l e p' h', spec_l14Cond.f b p h = some (a, q, l, e, p', h') ∧ condB q l e = true ∧ 0 ≤ p' ∧ p' ≤ (b.length : Int) := by
 obtain ⟨q, l, e, z, p1, h1', e1, hc, a0, a1⟩ := par_at b hb p h h0 h1
 obtain ⟨y, p2, h2', e2, b0, b1⟩ := once_at b hb p1 h1' 2 a0 a1 (by omega)
 unfold spec_l14Cond.f
 simp only [e1, e2, Option.bind_some]
 exact ⟨_, _, _, _, _, _, rfl, hc, b0, b1⟩
theorem levB_of {r : List Int} (h : LevL 64 r) : levB r = true := levB_iff.2 ⟨h.1, allB_iff.2 h.2⟩
theorem good_move {dx dy : Int} {r : List Int} (hx : -16 ≤ dx ∧ dx ≤ 16) (hy : -16 ≤ dy ∧ dy ≤ 16) (h : LevL 64 r) : sqB 1 0 dx dy r = true := by
 unfold sqB
 rw [if_neg (by omega), if_pos rfl, levB_of h, decide_eq_true hx, decide_eq_true hy]
 rfl
theorem good_guess {m : Int} {r : List Int} (hm : 0 ≤ m ∧ m ≤ 3) (h : LevL 64 r) : sqB 2 m 0 0 r = true := by
 unfold sqB
 rw [if_neg (by omega), if_neg (by omega), if_pos rfl, levB_of h, decide_eq_true hm]
 rfl
theorem sq_j1 (b : List Int) (hb : b.length ≤ 140737488351232) (y : Bool) (p h : Int) (h0 : 0 ≤ p) (h1 : p ≤ (b.length : Int)) :
  ∃ kd mode dx dy l p' h', Ev (fun k => spec_l15Square.j1 k y b p h) (kd, mode, dx, dy, l, p', h') ∧ sqB kd mode dx dy l = true ∧ (y = false → kd = 2) ∧ 0 ≤ p' ∧ p' ≤ (b.length : Int) := by
 cases y with
 | true =>
  obtain ⟨x, p1, h1', e1, x0, x1, a0, a1⟩ := below_at b hb p h 7 h0 h1 (by omega)
  obtain ⟨z, p2, h2', e2, z0, z1, b0, b1⟩ := below_at b hb p1 h1' 7 a0 a1 (by omega)
  obtain ⟨r, p3, h3', e3, hr, c0, c1⟩ := levels_at b hb p2 h2' b0 b1
  obtain ⟨t, p4, h4', e4, d0, d1⟩ := once_at b hb p3 h3' 6 c0 c1 (by omega)
  have wx : wrap64 (x - 3) = x - 3 := wrap_id (by omega) (by omega)
  have wz : wrap64 (z - 3) = z - 3 := wrap_id (by omega) (by omega)
  cases t with
  | true =>
   obtain ⟨u, p5, h5', e5, u0, u1, f0, f1⟩ := below_at b hb p4 h4' 33 d0 d1 (by omega)
   have wu : wrap64 (u - 16) = u - 16 := by clear wx wz; exact wrap_id (by omega) (by omega)
   refine ⟨1, 0, u - 16, z - 3, r, p5, h5', ?_, good_move (by clear wx wz wu; omega) (by clear wx wz wu; omega) hr, fun h => (by cases h), f0, f1⟩
   refine Ev.step (fun k => by simp only [spec_l15Square.j1, if_true, e1, e2, Option.bind_some]; rfl) (Ev.bind e3 ?_)
   simp only [e4, Option.bind_some, if_true, e5, wu, wz]
   exact Ev.now _
  | false =>
   refine ⟨1, 0, x - 3, z - 3, r, p4, h4', ?_, good_move (by clear wx wz; omega) (by clear wx wz; omega) hr, fun h => (by cases h), d0, d1⟩
   refine Ev.step (fun k => by simp only [spec_l15Square.j1, if_true, e1, e2, Option.bind_some]; rfl) (Ev.bind e3 ?_)
   simp only [e4, Option.bind_some, Bool.false_eq_true, if_false, wx, wz]
   exact Ev.now _
 | false =>
  obtain ⟨x, p1, h1', e1, x0, x1, a0, a1⟩ := below_at b hb p h 4 h0 h1 (by omega)
  obtain ⟨r, p3, h3', e3, hr, c0, c1⟩ := levels_at b hb p1 h1' a0 a1
  refine ⟨2, x, 0, 0, r, p3, h3', ?_, good_guess (by omega) hr, fun _ => rfl, c0, c1⟩
  refine Ev.step (fun k => by simp only [spec_l15Square.j1, Bool.false_eq_true, if_false, e1, Option.bind_some]; rfl) (Ev.bind e3 (Ev.now _))
theorem square_at (b : List Int) (hb : b.length ≤ 140737488351232) (p h : Int) (h0 : 0 ≤ p) (h1 : p ≤ (b.length : Int)) (key : Bool) (q : Int) (large ex : Bool) :
  ∃ kd mode dx dy l p' h', Ev (fun k => spec_l15Square.f k b p h key q large ex) (kd, mode, dx, dy, l, p', h') ∧ SqGood key kd mode dx dy l ∧ 0 ≤ p' ∧ p' ≤ (b.length : Int) := by
 unfold spec_l15Square.f
 cases key with
 | true =>
  obtain ⟨kd, mode, dx, dy, l, p', h', e, g, hk, c⟩ := sq_j1 b hb false p h h0 h1
  refine ⟨kd, mode, dx, dy, l, p', h', ?_, ⟨g, fun _ => hk rfl⟩, c⟩
  simp only [if_true]
  exact Ev.step (fun k => by simp only [spec_l15Square.j0, Bool.false_eq_true, if_false, if_true]) e
 | false =>
  obtain ⟨t, p1, h1', e1, a0, a1⟩ := once_at b hb p h 4 h0 h1 (by omega)
  simp only [Bool.false_eq_true, if_false, e1, Option.bind_some]
  cases t with
  | true =>
   exact ⟨0, 0, 0, 0, [], p1, h1', Ev.step (f := fun _ => some (0, 0, 0, 0, [], p1, h1')) (fun k => by simp only [spec_l15Square.j0, if_true]) (Ev.now _), ⟨rfl, fun h => (by cases h)⟩, a0, a1⟩
  | false =>
   obtain ⟨u, p2, h2', e2, b0, b1⟩ := once_at b hb p1 h1' 2 a0 a1 (by omega)
   obtain ⟨kd, mode, dx, dy, l, p', h', e, g, hk, c⟩ := sq_j1 b hb u p2 h2' b0 b1
   refine ⟨kd, mode, dx, dy, l, p', h', ?_, ⟨g, fun h => by cases h⟩, c⟩
   exact Ev.step (fun k => by simp only [spec_l15Square.j0, Bool.false_eq_true, if_false, e2, Option.bind_some]) e
def GoodAll (key : Bool) (xs : List S50) : Prop := ∀ x ∈ xs, SqGood key x.f0 x.f1 x.f2 x.f3 x.f4
theorem squares_loop (b : List Int) (hb : b.length ≤ 140737488351232) (key : Bool) (q : Int) (large ex : Bool) (n : Int) (hn : n ≤ 1000) (d : Nat) : ∀ (out : List S50) (i p h : Int), 0 ≤ i → n - i = (d : Int) → (out.length : Int) = i → GoodAll key out → 0 ≤ p → p ≤ (b.length : Int) →
  ∃ xs p' h', Ev (fun k => spec_l16Squares.l0 k n out i b p h key q large ex) (xs, p', h') ∧ (xs.length : Int) = n ∧ GoodAll key xs := by
 induction d with
 | zero =>
  intro out i p h hi hd ho hx h0 h1
  exact ⟨out, p, h, Ev.step (f := fun _ => some (out, p, h)) (fun k => by simp only [spec_l16Squares.l0]; rw [if_neg (by omega)]) (Ev.now _), by omega, hx⟩
 | succ d ih =>
  intro out i p h hi hd ho hx h0 h1
  obtain ⟨kd, mode, dx, dy, l, p1, h1', e, g, c0, c1⟩ := square_at b hb p h h0 h1 key q large ex
  obtain ⟨xs, p', h', er, hr⟩ := ih (out ++ [⟨kd, mode, dx, dy, l⟩]) (i + 1) p1 h1' (by omega) (by omega) (by rw [List.length_append]; simp; omega) (by
   intro x hx'
   rcases List.mem_append.1 hx' with hx' | hx'
   ·exact hx x hx'
   ·simp at hx'; subst hx'; exact g) c0 c1
  refine ⟨xs, p', h', Ev.step (fun k => by simp only [spec_l16Squares.l0]; rw [if_pos (by omega)]) (Ev.bind e ?_), hr⟩
  have g1 : out.length < 2513169434916 := by omega
  have g2 : wrap64 (i + 1) = i + 1 := wrap_id (by omega) (by omega)
  simp only [g1, if_true, g2]
  exact er
theorem drawsquares_ev (l : List Int) (hl : l.length ≤ 140737488351232) : ∃ xs key q large ex, Ev (fun k => spec_DrawSquares.f k l) (xs, key, q, large, ex) ∧ condB q large ex = true ∧ 1 ≤ xs.length ∧ xs.length ≤ 4 ∧ GoodAll key xs := by
 obtain ⟨h, e⟩ := new_ev l hl
 obtain ⟨a, q, la, ex, p1, h1', e1, hc, a0, a1⟩ := cond_at l hl 0 h (by omega) (by omega)
 obtain ⟨n, p2, h2', e2, n0, n1, b0, b1⟩ := below_at l hl p1 h1' 4 a0 a1 (by omega)
 have hw : wrap64 (1 + n) = 1 + n := wrap_id (by omega) (by omega)
 obtain ⟨xs, p3, h3', e3, hx, hg⟩ := squares_loop l hl a q la ex (1 + n) (by clear hw; omega) (1 + n).toNat [] 0 p2 h2' (by omega) (by clear hw; omega) rfl (fun x hx => by simp at hx) b0 b1
 refine ⟨xs, a, q, la, ex, ?_, hc, by clear hw; omega, by clear hw; omega, hg⟩
 unfold spec_DrawSquares.f
 refine Ev.bind e ?_
 simp only [e1, e2, Option.bind_some, hw]
 refine Ev.bind (a := (xs, p3, h3')) ?_ (Ev.now _)
 unfold spec_l16Squares.f
 exact e3
theorem same_ev (a b : List Int) (ha : a.length ≤ 17592186043904) : Ev (fun k => laws_sameInts.f k a b) (decide (a = b)) := by
 by_cases hl : a.length = b.length
 ·have H : ∀ i, i ≤ a.length → Ev (fun k => laws_sameInts.l0 k a b (i : Int)) (decide (a.drop i = b.drop i)) := by
   refine down a.length ?_ ?_
   ·refine Ev.step (f := fun _ => some true) (fun k => ?_) ?_
    ·simp only [laws_sameInts.l0]
     rw [if_neg (by omega)]
    ·rw [show decide (a.drop a.length = b.drop a.length) = true by rw [hl]; simp [← hl]]; exact Ev.now _
   ·intro i hi h
    have hb : i < b.length := by omega
    by_cases c : a[i] = b[i]
    ·have e : decide (a.drop i = b.drop i) = decide (a.drop (i + 1) = b.drop (i + 1)) := by
      rw [decide_eq_decide, drop_cons hi, drop_cons hb, c, List.cons.injEq]; simp only [true_and]
     rw [e]
     refine Ev.step (fun k => ?_) h
     simp only [laws_sameInts.l0]
     rw [if_pos (by omega), if_pos (by omega), if_pos (by omega), rd_nat a i hi, rd_nat b i hb, if_pos c, wrap_id (by omega) (by omega), cast1]
    ·have e : decide (a.drop i = b.drop i) = false := by
      rw [decide_eq_false_iff_not, drop_cons hi, drop_cons hb, List.cons.injEq]; exact fun h => c h.1
     rw [e]
     refine Ev.step (f := fun _ => some false) (fun k => ?_) (Ev.now _)
     simp only [laws_sameInts.l0]
     rw [if_pos (by omega), if_pos (by omega), if_pos (by omega), rd_nat a i hi, rd_nat b i hb, if_neg c]
  have h0 := H 0 (by omega)
  unfold laws_sameInts.f
  refine Ev.congr (fun k => ?_) h0
  rw [if_pos (by omega)]; rfl
 ·unfold laws_sameInts.f
  rw [show decide (a = b) = false from decide_eq_false (fun h => hl (by rw [h]))]
  refine Ev.congr (f := fun _ => some false) (fun k => ?_) (Ev.now _)
  rw [if_neg (by omega)]
theorem sameSelf_ev (a : List Int) (ha : a.length ≤ 17592186043904) : Ev (fun k => laws_sameInts.f k a a) true := by
 have h := same_ev a a ha
 rwa [decide_eq_true rfl] at h
theorem rd50_nat (xs : List S50) (i : Nat) (h : i < xs.length) : rd_T50 xs (i : Int) = xs[i] := by
 unfold rd_T50
 rw [Int.toNat_natCast, List.getD_eq_getElem?_getD, List.getElem?_eq_getElem h]
 rfl
theorem sameSq_self (x : S50) (h : x.f4.length ≤ 17592186043904) : Ev (fun k => laws_sameSquare.f k x.f0 x.f1 x.f2 x.f3 x.f4 x.f0 x.f1 x.f2 x.f3 x.f4) true := by
 unfold laws_sameSquare.f
 simp only [if_true]
 exact Ev.bind (sameSelf_ev x.f4 h) (Ev.now _)
theorem good_len {key : Bool} {x : S50} (g : SqGood key x.f0 x.f1 x.f2 x.f3 x.f4) : x.f4.length ≤ 64 := by
 rcases sqB_kd g.1 with e | ⟨_, _, _, e, _⟩ | ⟨_, _, e, _⟩
 ·have g0 := g.1
  rw [e] at g0
  rw [(sqB_zero g0).2.2.2]; simp
 ·omega
 ·omega
theorem l02_loop (b : List Int) (hb : b.length ≤ 140737488351232) (n : Int) (hn : n ≤ 60) (d : Nat) : ∀ (out : List Int) (i p h : Int), 0 ≤ i → n - i = (d : Int) → (out.length : Int) = i → (∀ y ∈ out, y = 48 ∨ y = 49) → 0 ≤ p → p ≤ (b.length : Int) →
  ∃ L p' h', Ev (fun k => spec_l02Signs.l0 k n out i b p h) (strOfNums L, p', h') ∧ L.length ≤ 60 ∧ ∀ y ∈ L, y = 48 ∨ y = 49 := by
 induction d with
 | zero =>
  intro out i p h hi hd ho hx h0 h1
  exact ⟨out, p, h, Ev.step (f := fun _ => some (strOfNums out, p, h)) (fun k => by simp only [spec_l02Signs.l0]; rw [if_neg (by omega)]) (Ev.now _), by omega, hx⟩
 | succ d ih =>
  intro out i p h hi hd ho hx h0 h1
  obtain ⟨x, p1, h1', e, x0, x1, a0, a1⟩ := below_at b hb p h 2 h0 h1 (by omega)
  have w : wrap64 (48 + x) % 256 = 48 + x := by rw [wrap_id (by omega) (by omega)]; omega
  obtain ⟨L, p', h', el, hl, hm⟩ := ih (out ++ [48 + x]) (i + 1) p1 h1' (by omega) (by omega) (by rw [List.length_append]; simp; omega) (by
   intro y hy
   rcases List.mem_append.1 hy with hy | hy
   ·exact hx y hy
   ·simp at hy; omega) a0 a1
  refine ⟨L, p', h', Ev.step (fun k => ?_) el, hl, hm⟩
  simp only [spec_l02Signs.l0]
  rw [if_pos (by omega), e, Option.bind_some, if_pos (by omega), w, wrap_id (x := i + 1) (by omega) (by omega)]
theorem drawrow_ev (l : List Int) (hl : l.length ≤ 140737488351232) : ∃ L, Ev (fun k => spec_DrawRow.f k l) (strOfNums L) ∧ L.length ≤ 60 ∧ ∀ y ∈ L, y = 48 ∨ y = 49 := by
 obtain ⟨h, e⟩ := new_ev l hl
 obtain ⟨n, p1, h1', e1, x0, x1, a0, a1⟩ := below_at l hl 0 h 61 (by omega) (by omega) (by omega)
 obtain ⟨L, p', h', el, h2, hm⟩ := l02_loop l hl n (by omega) n.toNat [] 0 p1 h1' (by omega) (by omega) rfl (by simp) a0 a1
 refine ⟨L, ?_, h2, hm⟩
 unfold spec_DrawRow.f
 refine Ev.bind e ?_
 simp only [e1, Option.bind_some]
 exact Ev.bind (a := (strOfNums L, p', h')) el (Ev.now _)
theorem readsquare_back {L : List Int} (hL : ∀ y ∈ L, y = 48 ∨ y = 49) (hl : L.length ≤ 400000) (key : Bool) (q : Int) (large ex : Bool) (hc : condB q large ex = true) {kd mode dx dy : Int} {l : List Int} (hg : SqGood key kd mode dx dy l) (A B : List Int) (e : L = A ++ (sqL key kd mode dx dy l large ex ++ B)) :
  Ev (fun k => impl_ReadSquare.f k (strOfNums L) (A.length : Int) key q large ex) (kd, mode, dx, dy, l, ((A.length + (sqL key kd mode dx dy l large ex).length : Nat) : Int), true) := by
 have hrow := rowB_str hL hl
 have hopen : openB (strOfNums L) (A.length : Int) = true := by
  unfold openB
  rw [hrow, strOfNums_size, Bool.true_and, decide_eq_true_eq, e, List.length_append]
  omega
 have hr := (openB_good hopen).1
 have ha := (at_append _ _ _ (at_str hL (sqL key kd mode dx dy l large ex ++ B) A e)).1
 unfold impl_ReadSquare.f
 refine Ev.bind (opened_ev (strOfNums L) (A.length : Int)) ?_
 simp only [cond_val, hc, Option.bind_some, if_true, hopen, Bool.not_true]
 refine Ev.bind (square_back hr key q large ex hg ha) ?_
 simp only [Bool.false_eq_true, if_false]
 exact Ev.now _
theorem FnSquares : laws_FnSquares.Pure := by
 intro l _ hl _
 refine Ev.rounds ?_
 unfold laws_FnSquares.f laws_big.f
 simp only [Option.bind_some]
 by_cases c : (l.length : Int) > 1048576
 ·simp only [c, decide_true, if_true]; exact Ev.now _
 ·simp only [c, decide_false, Bool.false_eq_true, if_false]
  obtain ⟨xs, key, q, large, ex, eD, hc, h1, h4, hg⟩ := drawsquares_ev l (by omega)
  obtain ⟨A, eA, hA, mA⟩ := drawrow_ev l (by omega)
  refine Ev.bind eD (Ev.bind eA ?_)
  have H : ∀ i, i ≤ xs.length → Ev (fun k => laws_FnSquares.l0 k xs (strOfNums A) (i : Int) key q large ex) true := by
   refine down xs.length ?_ ?_
   ·refine Ev.step (f := fun _ => some true) (fun k => ?_) (Ev.now _)
    simp only [laws_FnSquares.l0]
    rw [if_neg (by omega), decide_eq_true (by omega)]
   ·intro i hi h
    have g := hg xs[i] (List.getElem_mem _)
    have e := sqrow_ev key xs[i].f0 xs[i].f1 xs[i].f2 xs[i].f3 xs[i].f4 q large ex (by have := good_len g; omega)
    unfold sqrv sqLetB at e
    have hk : (!key || decide (xs[i].f0 = 2)) = true := by
     cases key with
     | true => rw [decide_eq_true (g.2 rfl)]; rfl
     | false => rfl
    rw [g.1, hc, hk] at e
    simp only [Bool.and_self, if_true] at e
    have ln := sqL_len (key := key) large ex g.1
    have mS := sqL_mem key xs[i].f0 xs[i].f1 xs[i].f2 xs[i].f3 xs[i].f4 large ex
    have eo := sqok_ev xs[i].f0 xs[i].f1 xs[i].f2 xs[i].f3 xs[i].f4 (by have := good_len g; omega)
    rw [g.1] at eo
    have es := sameSq_self xs[i] (by have := good_len g; omega)
    have m1 : ∀ y ∈ A ++ (sqL key xs[i].f0 xs[i].f1 xs[i].f2 xs[i].f3 xs[i].f4 large ex ++ [48]), y = 48 ∨ y = 49 := by
     intro y hy
     rcases List.mem_append.1 hy with h | h
     ·exact mA y h
     ·rcases List.mem_append.1 h with h | h
      ·exact mS y h
      ·simp at h; omega
    have er := readsquare_back m1 (by rw [List.length_append, List.length_append]; simp; omega) key q large ex hc g A [48] rfl
    rw [← strOfNums_size A] at er
    have ez : Ev (fun k => impl_SquareSize.f k xs[i].f0 xs[i].f1 xs[i].f2 xs[i].f3 xs[i].f4 key q large ex) (((strOfNums (sqL key xs[i].f0 xs[i].f1 xs[i].f2 xs[i].f3 xs[i].f4 large ex)).size : Nat) : Int) := by
     unfold impl_SquareSize.f
     exact Ev.bind e (Ev.now _)
    generalize sqL key xs[i].f0 xs[i].f1 xs[i].f2 xs[i].f3 xs[i].f4 large ex = S at e ln mS er ez m1
    have g1 : (strOfNums A).size + (strOfNums S).size ≤ 9223372036854775807 := by rw [strOfNums_size, strOfNums_size]; omega
    have g2 : (strOfNums A ++ strOfNums S).size + 1 ≤ 9223372036854775807 := by rw [ByteArray.size_append, strOfNums_size, strOfNums_size]; omega
    have w1 : strOfNums A ++ strOfNums S ++ (⟨#[48]⟩ : ByteArray) = strOfNums (A ++ (S ++ [48])) := by
     rw [strOfNums_append, ← List.append_assoc, ← strOfNums_append (A ++ S)]; rfl
    have w3 : (((strOfNums A).size + S.length : Nat) : Int) = wrap64 (((strOfNums A).size : Int) + ((strOfNums S).size : Int)) := by rw [strOfNums_size S, wrap_id (by rw [strOfNums_size]; omega) (by rw [strOfNums_size]; omega)]; omega
    refine Ev.step (fun k => by simp only [laws_FnSquares.l0]; rw [if_pos (by omega), if_pos (by omega), rd50_nat xs i hi]) (Ev.bind e ?_)
    simp only [g1, g2, if_true, w1]
    refine Ev.bind er ?_
    simp only [if_true]
    refine Ev.bind es ?_
    simp only [if_true, w3]
    refine Ev.bind ez ?_
    simp only [if_true]
    refine Ev.bind eo ?_
    have w2 : wrap64 ((i : Int) + 1) = ((i + 1 : Nat) : Int) := by rw [wrap_id (by omega) (by omega)]; omega
    simp only [if_true, w2]
    exact h
  exact H 0 (by omega)
end Go.Proofs.Ytlmlkoalicjlhaa.Pure