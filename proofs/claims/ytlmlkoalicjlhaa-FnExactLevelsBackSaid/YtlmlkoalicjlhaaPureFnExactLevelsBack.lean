/- The program's LevelsBack answers what the reference's LevelsBack answers, for all lists and conditions, in new memory, and leaves its argument as it was. No condition beside the row's own. -/
import Derived.Test.YtlmlkoalicjlhaaQFnExactLevelsBackx14
namespace Go.Proofs.Ytlmlkoalicjlhaa.Pure
open Go.RowKit Go.Proofs.Ytlmlkoalicjlhaa.QFnExactLevelsBack Go.Proofs.YtlmlkoalicjlhaaW.PrintWords Go.Proofs.YtlmlkoalicjlhaaW.PrintLast Go.Proofs.YtlmlkoalicjlhaaW.PrintMore Go.Proofs.YtlmlkoalicjlhaaV
set_option linter.unusedVariables false
set_option linter.unusedSimpArgs false
theorem wrap_id {x : Int} (h0 : -9223372036854775808 ≤ x) (h1 : x ≤ 9223372036854775807) : wrap64 x = x := by
 unfold wrap64
 omega
theorem within_eq (a b c : Int) : impl_within.f a b c = some (decide (b ≤ a ∧ a ≤ c)) := by
 unfold impl_within.f
 by_cases h : a ≥ b
 ·rw [if_pos h]; congr 1; rw [decide_eq_decide]; omega
 ·rw [if_neg h]; congr 1; symm; rw [decide_eq_false_iff_not]; omega
theorem in_eq (a b c : Int) : spec_l01In.f a b c = some (decide (b ≤ a ∧ a ≤ c)) := by
 unfold spec_l01In.f
 by_cases h : a ≥ b
 ·rw [if_pos h]; congr 1; rw [decide_eq_decide]; omega
 ·rw [if_neg h]; congr 1; symm; rw [decide_eq_false_iff_not]; omega
theorem down {P : Nat → Prop} (n : Nat) (h0 : P n) (hs : ∀ i, i < n → P (i + 1) → P i) : ∀ i, i ≤ n → P i := by
 intro i hi
 obtain ⟨d, hd⟩ : ∃ d, d = n - i := ⟨_, rfl⟩
 induction d generalizing i with
 | zero =>
  have : i = n := by omega
  subst this; exact h0
 | succ d ih => exact hs i (by omega) (ih (i + 1) (by omega) (by omega))
theorem rd_nat (l : List Int) (i : Nat) (h : i < l.length) : rd l (i : Int) = l[i] := by
 unfold rd
 rw [List.getD_eq_getElem?_getD, Int.toNat_natCast, List.getElem?_eq_getElem h]; rfl
theorem cast1 (i : Nat) : ((i : Nat) : Int) + 1 = ((i + 1 : Nat) : Int) := rfl
theorem mix_set {α : Type} (l z : List α) (i : Nat) (hi : i < l.length) (hz : i < z.length) : (l.take i ++ z.drop i).set i l[i] = l.take (i + 1) ++ z.drop (i + 1) := by
 rw [List.set_append_right _ _ (by simp; omega)]
 rw [show i - (l.take i).length = 0 by simp; omega]
 rw [List.drop_eq_getElem_cons hz, List.set_cons_zero, List.take_succ_eq_append_getElem hi, List.append_assoc]; rfl
theorem mix_length {α : Type} (l z : List α) (i : Nat) (h : l.length = z.length) (hi : i ≤ l.length) : (l.take i ++ z.drop i).length = l.length := by
 simp; omega
theorem mix_end {α : Type} (l z : List α) (h : l.length = z.length) : l.take l.length ++ z.drop l.length = l := by
 rw [List.take_length, h, List.drop_length, List.append_nil]
theorem mix_zero {α : Type} (l z : List α) : l.take 0 ++ z.drop 0 = z := by simp
theorem drop_cons {α : Type} {l : List α} {i : Nat} (h : i < l.length) : l.drop i = l[i] :: l.drop (i + 1) := List.drop_eq_getElem_cons h
theorem toInts_ev (l : List Int) (hl : l.length ≤ 17592186043904) : Ev (fun k => laws_toIntS.f k l) l := by
 have H : ∀ i, i ≤ l.length → Ev (fun k => laws_toIntS.l0 k l (l.take i ++ (List.replicate l.length (0 : Int)).drop i) (i : Int)) l := by
  refine down l.length ?_ ?_
  ·refine Ev.step (f := fun _ => some l) (fun k => ?_) (Ev.now _)
   simp only [laws_toIntS.l0]
   rw [if_neg (by omega), mix_end _ _ (by simp)]
  ·intro i hi h
   refine Ev.step (fun k => ?_) h
   simp only [laws_toIntS.l0]
   rw [if_pos (by omega), if_pos (by omega), if_pos (by rw [mix_length _ _ _ (by simp) (by omega)]; omega), rd_nat l i hi, Int.toNat_natCast, mix_set _ _ _ hi (by simp; exact hi), wrap_id (by omega) (by omega), cast1]
 have h0 := H 0 (by omega)
 rw [mix_zero] at h0
 unfold laws_toIntS.f
 refine Ev.congr (fun k => ?_) h0
 rw [if_pos (by omega), if_pos (by simp; omega), Int.toNat_natCast]; rfl
theorem eqInts_ev (a b : List Int) (ha : a.length ≤ 17592186043904) : Ev (fun k => laws_eqIntS.f k a b) (decide (a = b)) := by
 by_cases hl : a.length = b.length
 ·have H : ∀ i, i ≤ a.length → Ev (fun k => laws_eqIntS.l0 k a b (i : Int)) (decide (a.drop i = b.drop i)) := by
   refine down a.length ?_ ?_
   ·refine Ev.step (f := fun _ => some true) (fun k => ?_) ?_
    ·simp only [laws_eqIntS.l0]
     rw [if_neg (by omega)]
    ·rw [show decide (a.drop a.length = b.drop a.length) = true by rw [hl]; simp [← hl]]; exact Ev.now _
   ·intro i hi h
    have hb : i < b.length := by omega
    by_cases c : a[i] = b[i]
    ·have e : decide (a.drop i = b.drop i) = decide (a.drop (i + 1) = b.drop (i + 1)) := by
      rw [decide_eq_decide, drop_cons hi, drop_cons hb, c, List.cons.injEq]; simp only [true_and]
     rw [e]
     refine Ev.step (fun k => ?_) h
     simp only [laws_eqIntS.l0]
     rw [if_pos (by omega), if_pos (by omega), if_pos (by omega), rd_nat a i hi, rd_nat b i hb, if_pos c, wrap_id (by omega) (by omega), cast1]
    ·have e : decide (a.drop i = b.drop i) = false := by
      rw [decide_eq_false_iff_not, drop_cons hi, drop_cons hb, List.cons.injEq]; exact fun h => c h.1
     rw [e]
     refine Ev.step (f := fun _ => some false) (fun k => ?_) (Ev.now _)
     simp only [laws_eqIntS.l0]
     rw [if_pos (by omega), if_pos (by omega), if_pos (by omega), rd_nat a i hi, rd_nat b i hb, if_neg c]
  have h0 := H 0 (by omega)
  unfold laws_eqIntS.f
  refine Ev.congr (fun k => ?_) h0
  rw [if_pos (by omega)]; rfl
 ·unfold laws_eqIntS.f
  rw [show decide (a = b) = false from decide_eq_false (fun h => hl (by rw [h]))]
  refine Ev.congr (f := fun _ => some false) (fun k => ?_) (Ev.now _)
  rw [if_neg (by omega)]
/-- All numbers of a list are from lo to hi. -/
def allB (lo hi : Int) (l : List Int) : Bool := l.all fun x => decide (lo ≤ x ∧ x ≤ hi)
theorem allB_cons (lo hi x : Int) (l : List Int) : allB lo hi (x :: l) = (decide (lo ≤ x ∧ x ≤ hi) && allB lo hi l) := rfl
theorem allB_iff {lo hi : Int} {l : List Int} : allB lo hi l = true ↔ ∀ x ∈ l, lo ≤ x ∧ x ≤ hi := by
 unfold allB
 rw [List.all_eq_true]
 simp only [decide_eq_true_eq]
theorem areIn_ev (l : List Int) (n lo hi : Int) (hl : l.length ≤ 17592186043904) : Ev (fun k => impl_areIn.f k l n lo hi) (decide ((l.length : Int) = n) && allB lo hi l) := by
 have H : ∀ i, i ≤ l.length → Ev (fun k => impl_areIn.l0 k l n lo hi l (l.length : Int) (i : Int)) (decide ((l.length : Int) = n) && allB lo hi (l.drop i)) := by
  refine down l.length ?_ ?_
  ·refine Ev.step (f := fun _ => some (decide ((l.length : Int) = n))) (fun k => ?_) ?_
   ·simp only [impl_areIn.l0]
    rw [if_neg (by omega)]; congr 1
   ·rw [List.drop_length]; simp only [allB, List.all_nil, Bool.and_true]; exact Ev.now _
  ·intro i h1 h
   rw [drop_cons h1, allB_cons]
   by_cases c : lo ≤ l[i] ∧ l[i] ≤ hi
   ·rw [decide_eq_true c, Bool.true_and]
    refine Ev.step (fun k => ?_) h
    simp only [impl_areIn.l0]
    rw [if_pos (by omega), if_pos (by omega), if_pos (by omega), rd_nat l i h1, within_eq, Option.bind_some, if_pos (decide_eq_true c), wrap_id (by omega) (by omega), cast1]
   ·rw [decide_eq_false c, Bool.false_and, Bool.and_false]
    refine Ev.step (f := fun _ => some false) (fun k => ?_) (Ev.now _)
    simp only [impl_areIn.l0]
    rw [if_pos (by omega), if_pos (by omega), if_pos (by omega), rd_nat l i h1, within_eq, Option.bind_some, if_neg (by simpa using c)]
 exact H 0 (by omega)
theorem all_ev (l : List Int) (n m : Int) (hl : l.length ≤ 17592186043904) (hm : 0 ≤ m) (hm' : m ≤ 1000000000) : Ev (fun k => spec_l09All.f k l n m) (decide ((l.length : Int) = n) && allB (-m) m l) := by
 unfold spec_l09All.f
 by_cases hn : (l.length : Int) = n
 ·subst hn
  have H : ∀ i, i ≤ l.length → Ev (fun k => spec_l09All.l0 k l (l.length : Int) m (i : Int)) (allB (-m) m (l.drop i)) := by
   refine down l.length ?_ ?_
   ·refine Ev.step (f := fun _ => some true) (fun k => ?_) ?_
    ·simp only [spec_l09All.l0]
     rw [if_neg (by omega)]
    ·rw [List.drop_length]; exact Ev.now _
   ·intro i h1 h
    rw [drop_cons h1, allB_cons]
    by_cases c : -m ≤ l[i] ∧ l[i] ≤ m
    ·rw [decide_eq_true c, Bool.true_and]
     refine Ev.step (fun k => ?_) h
     simp only [spec_l09All.l0]
     rw [if_pos (by omega), if_pos (by omega), if_pos (by omega), rd_nat l i h1, wrap_id (x := -m) (by omega) (by omega), in_eq, Option.bind_some, if_pos (decide_eq_true c), wrap_id (by omega) (by omega), cast1]
    ·rw [decide_eq_false c, Bool.false_and]
     refine Ev.step (f := fun _ => some false) (fun k => ?_) (Ev.now _)
     simp only [spec_l09All.l0]
     rw [if_pos (by omega), if_pos (by omega), if_pos (by omega), rd_nat l i h1, wrap_id (x := -m) (by omega) (by omega), in_eq, Option.bind_some, if_neg (by simpa using c)]
  refine Ev.congr (fun k => by rw [if_pos rfl]) ?_
  rw [decide_eq_true rfl, Bool.true_and]
  exact H 0 (by omega)
 ·rw [decide_eq_false hn, Bool.false_and]
  exact Ev.congr (f := fun _ => some false) (fun k => by rw [if_neg hn]) (Ev.now _)
/-- The numbers a, a + 1, .., n of them. -/
def marks : Nat → Int → List Int
 | 0, _ => []
 | n + 1, a => a :: marks n (a + 1)
theorem marks_length (n : Nat) : ∀ a, (marks n a).length = n := by
 induction n with
 | zero => intro a; rfl
 | succ n ih => intro a; simp [marks, ih]
theorem marks_get (n : Nat) : ∀ (a : Int) (i : Nat) (h : i < (marks n a).length), (marks n a)[i] = a + i := by
 induction n with
 | zero => intro a i h; simp [marks] at h
 | succ n ih =>
  intro a i h
  cases i with
  | zero => simp [marks]
  | succ i =>
   have := ih (a + 1) i (by simp [marks] at h; exact h)
   simp only [marks, List.getElem_cons_succ]
   rw [this]
   have e : ((i + 1 : Nat) : Int) = (i : Int) + 1 := rfl
   rw [e]; omega
theorem mark_ev (l : List Int) (a : Int) (hl : l.length ≤ 17592186043904) (h0 : 0 ≤ a) (h1 : a ≤ 1000000000000) : Ev (fun k => laws_markIntS.f k l a) (a + (l.length : Int), marks l.length a) := by
 have hm := marks_length l.length a
 have H : ∀ i, i ≤ l.length → Ev (fun k => laws_markIntS.l0 k ((marks l.length a).take i ++ l.drop i) (a + (i : Int)) (i : Int)) (a + (l.length : Int), marks l.length a) := by
  refine down l.length ?_ ?_
  ·refine Ev.step (f := fun _ => some (a + (l.length : Int), marks l.length a)) (fun k => ?_) (Ev.now _)
   have e := mix_end (marks l.length a) l hm
   rw [hm] at e
   simp only [laws_markIntS.l0]
   rw [e, if_neg (by rw [hm]; omega)]
  ·intro i hi h
   refine Ev.step (fun k => ?_) h
   have e := mix_set (marks l.length a) l i (by omega) hi
   rw [marks_get] at e
   simp only [laws_markIntS.l0]
   rw [if_pos (by rw [mix_length _ _ _ hm (by omega)]; omega), if_pos (by omega), Int.toNat_natCast, e, wrap_id (x := a + (i : Int) + 1) (by omega) (by omega), wrap_id (x := (i : Int) + 1) (by omega) (by omega), Int.add_assoc, cast1]
 have h := H 0 (by omega)
 rw [mix_zero] at h
 simpa [laws_markIntS.f] using h
theorem held_ev (n : Nat) (a : Int) (hl : n ≤ 17592186043904) (h0 : 0 ≤ a) (h1 : a ≤ 1000000000000) : Ev (fun k => laws_heldIntS.f k (marks n a) a) (a + (n : Int)) := by
 have hm := marks_length n a
 have H : ∀ i, i ≤ n → Ev (fun k => laws_heldIntS.l0 k (marks n a) (a + (i : Int)) (i : Int)) (a + (n : Int)) := by
  refine down n ?_ ?_
  ·refine Ev.step (f := fun _ => some (a + (n : Int))) (fun k => ?_) (Ev.now _)
   simp only [laws_heldIntS.l0]
   rw [hm, if_neg (by omega)]
  ·intro i hi h
   refine Ev.step (fun k => ?_) h
   simp only [laws_heldIntS.l0]
   rw [if_pos (by omega), if_pos (by omega), rd_nat _ i (by omega), marks_get, if_pos rfl, wrap_id (x := a + (i : Int) + 1) (by omega) (by omega), wrap_id (x := (i : Int) + 1) (by omega) (by omega), Int.add_assoc, cast1]
 have h := H 0 (by omega)
 simpa [laws_heldIntS.f] using h
theorem eqSelf_ev (a : List Int) (ha : a.length ≤ 17592186043904) : Ev (fun k => laws_eqIntS.f k a a) true := by
 have h := eqInts_ev a a ha
 rwa [decide_eq_true rfl] at h
def FoOk (x : List Int) : Prop := x.length = 16 ∧ allB (-1000) 1000 x = true
instance (x : List Int) : Decidable (FoOk x) := by unfold FoOk; infer_instance
theorem list16 (x : List Int) (h : x.length = 16) : ∃ a0 a1 a2 a3 a4 a5 a6 a7 a8 a9 a10 a11 a12 a13 a14 a15, x = [a0, a1, a2, a3, a4, a5, a6, a7, a8, a9, a10, a11, a12, a13, a14, a15] := by
 match x, h with
 | [a0, a1, a2, a3, a4, a5, a6, a7, a8, a9, a10, a11, a12, a13, a14, a15], _ => exact ⟨a0, a1, a2, a3, a4, a5, a6, a7, a8, a9, a10, a11, a12, a13, a14, a15, rfl⟩
theorem len_dec4 (l : List Int) (n : Nat) (m : Int) (h : m = (n : Int)) : decide ((l.length : Int) = m) = decide (l.length = n) := by rw [decide_eq_decide]; omega
theorem and_false4 {b : Bool} {p : Prop} [Decidable p] (h : ¬ (p ∧ b = true)) : (decide p && b) = false := by
 rw [Bool.eq_false_iff]; intro h'; rw [Bool.and_eq_true, decide_eq_true_eq] at h'; exact h h'
theorem turnedL_len (T x) : (turnedL T x).length = x.length := by simp [turnedL, colsT, rowsT, colT, rowT]
theorem Ev.from {α : Type} {f : Nat → Option α} {v : α} (n : Nat) (h : ∀ k, f (k + n) = some v) : Ev f v := by
 refine ⟨n, fun k hk => ?_⟩
 have e := h (k - n)
 rwa [Nat.sub_add_cancel hk] at e
def down64 (x : Int) : Int := (x + 32) / 64
def settledL (l : List Int) : List Int := l.map down64
theorem settledL_len (l : List Int) : (settledL l).length = l.length := by simp [settledL]
theorem down_eq {x : Int} (h0 : -1000000000000 ≤ x) (h1 : x ≤ 1000000000000) :
  (if (64 : Int) = 0 then (none : Option Int) else (if (Int.tmod (wrap64 (x + 32)) 64) < 0 then (some (wrap64 ((wrap64 (Int.tdiv (wrap64 (x + 32)) 64)) - 1))) else (some (wrap64 (Int.tdiv (wrap64 (x + 32)) 64))))) = some (down64 x) := by
 rw [if_neg (by omega), wrap_id (x := x + 32) (by omega) (by omega)]
 unfold down64
 generalize hy : x + 32 = y
 have h2 : -1000000000100 ≤ y := by omega
 have h3 : y ≤ 1000000000100 := by omega
 clear hy h0 h1
 have hd : Int.tdiv y 64 * 64 + Int.tmod y 64 = y := Int.tdiv_mul_add_tmod y 64
 by_cases c : Int.tmod y 64 < 0
 ·have hl : -64 < Int.tmod y 64 := by
   have := Int.lt_tmod_of_pos y (b := 64) (by omega)
   omega
  rw [if_pos c, wrap_id (x := Int.tdiv y 64) (by omega) (by omega), wrap_id (by omega) (by omega)]
  congr 1
  omega
 ·have hl : Int.tmod y 64 < 64 := Int.tmod_lt_of_pos y (by omega)
  rw [if_neg c, wrap_id (x := Int.tdiv y 64) (by omega) (by omega)]
  congr 1
  omega
/-- A row that is settled up to i. -/
def setTo (l : List Int) (i : Nat) : List Int := (settledL l).take i ++ l.drop i
theorem setTo_len (l : List Int) (i : Nat) (h : i ≤ l.length) : (setTo l i).length = l.length := by
 unfold setTo
 rw [List.length_append, List.length_take, List.length_drop, settledL_len]
 omega
theorem setTo_rd (l : List Int) (i : Nat) (h : i < l.length) : rd (setTo l i) (i : Int) = l[i] := by
 unfold rd setTo
 rw [Int.toNat_natCast, List.getD_eq_getElem?_getD, List.getElem?_append_right (by rw [List.length_take, settledL_len]; omega), List.length_take, settledL_len, Nat.min_eq_left (by omega), Nat.sub_self, List.getElem?_drop, Nat.add_zero, List.getElem?_eq_getElem h]
 rfl
theorem setTo_set (l : List Int) (i : Nat) (h : i < l.length) : (setTo l i).set i (down64 l[i]) = setTo l (i + 1) := by
 have e : down64 l[i] = (settledL l)[i]'(by rw [settledL_len]; exact h) := by simp [settledL]
 rw [e]
 exact mix_set (settledL l) l i (by rw [settledL_len]; exact h) h
theorem setTo_end (l : List Int) : setTo l l.length = settledL l := by
 unfold setTo
 rw [List.drop_length, List.append_nil, List.take_of_length_le (by rw [settledL_len]; omega)]
theorem settled_ev (l : List Int) (hl : l.length ≤ 17592186043904) (hb : ∀ x ∈ l, -1000000000000 ≤ x ∧ x ≤ 1000000000000) : Ev (fun k => impl_settled.f k l) (settledL l) := by
 have H : ∀ i, i ≤ l.length → Ev (fun k => impl_settled.l0 k (setTo l i) (l.length : Int) (i : Int)) (settledL l) := by
  refine down l.length ?_ ?_
  ·refine Ev.step (f := fun _ => some (settledL l)) (fun k => ?_) (Ev.now _)
   simp only [impl_settled.l0]
   rw [if_neg (by omega), setTo_end]
  ·intro i hi h
   have hx := hb l[i] (List.getElem_mem _)
   refine Ev.step (fun k => ?_) h
   simp only [impl_settled.l0]
   rw [if_pos (by omega), if_pos (by omega), if_pos (by rw [setTo_len l i (by omega)]; omega), setTo_rd l i hi]
   unfold impl_floor.f
   rw [down_eq hx.1 hx.2, Option.bind_some, Int.toNat_natCast, setTo_set l i hi, wrap_id (by omega) (by omega), cast1]
 have h0 := H 0 (by omega)
 unfold impl_settled.f
 exact h0
def FbOk (x : List Int) : Prop := x.length = 16 ∧ allB (-10000000) 10000000 x = true
instance (x : List Int) : Decidable (FbOk x) := by unfold FbOk; infer_instance
def fbv (x : List Int) : List Int := if FbOk x then settledL (turnedL b4 x) else []
theorem fl2_small {x M : Int} (hM : M ≤ 1000000000000) (h0 : -M ≤ x) (h1 : x ≤ M) : -M - 1 ≤ fl2 x ∧ fl2 x ≤ M := by
 unfold fl2
 have hd : Int.tdiv x 2 * 2 + Int.tmod x 2 = x := Int.tdiv_mul_add_tmod x 2
 have hl : -2 < Int.tmod x 2 := by have := Int.lt_tmod_of_pos x (b := 2) (by omega); omega
 have hr : Int.tmod x 2 < 2 := Int.tmod_lt_of_pos x (by omega)
 generalize Int.tmod x 2 = m at hd hl hr
 generalize Int.tdiv x 2 = q at hd
 split
 ·rw [wrap_id (x := q) (by omega) (by omega), wrap_id (by omega) (by omega)]; omega
 ·rw [wrap_id (x := q) (by omega) (by omega)]; omega
theorem b4_small {a b c d M : Int} (hM : M ≤ 200000000000) (ha : -M ≤ a ∧ a ≤ M) (hb : -M ≤ b ∧ b ≤ M) (hc : -M ≤ c ∧ c ≤ M) (hd : -M ≤ d ∧ d ≤ M) :
  (-(4 * M + 4) ≤ (b4 a b c d).1 ∧ (b4 a b c d).1 ≤ 4 * M + 4) ∧ (-(4 * M + 4) ≤ (b4 a b c d).2.1 ∧ (b4 a b c d).2.1 ≤ 4 * M + 4) ∧ (-(4 * M + 4) ≤ (b4 a b c d).2.2.1 ∧ (b4 a b c d).2.2.1 ≤ 4 * M + 4) ∧ (-(4 * M + 4) ≤ (b4 a b c d).2.2.2 ∧ (b4 a b c d).2.2.2 ≤ 4 * M + 4) := by
 have h1 := fl2_small (x := b) (M := M) (by omega) hb.1 hb.2
 have h2 := fl2_small (x := d) (M := M) (by omega) hd.1 hd.2
 unfold b4
 generalize fl2 b = p at h1
 generalize fl2 d = q at h2
 dsimp only
 rw [wrap_id (x := a + c) (by omega) (by omega), wrap_id (x := a - c) (by omega) (by omega), wrap_id (x := b + q) (by omega) (by omega), wrap_id (x := p - d) (by omega) (by omega)]
 rw [wrap_id (x := a + c + (b + q)) (by omega) (by omega), wrap_id (x := a - c + (p - d)) (by omega) (by omega), wrap_id (x := a - c - (p - d)) (by omega) (by omega), wrap_id (x := a + c - (b + q)) (by omega) (by omega)]
 omega
def InM (M : Int) (x : List Int) : Prop := ∀ v ∈ x, -M ≤ v ∧ v ≤ M
theorem rd_in {M : Int} {x : List Int} (hM : 0 ≤ M) (h : InM M x) (i : Int) : -M ≤ rd x i ∧ rd x i ≤ M := by
 unfold rd
 rw [List.getD_eq_getElem?_getD]
 cases e : x[i.toNat]? with
 | none => simp; omega
 | some v => exact h v (List.mem_of_getElem? e)
theorem set_in {M : Int} {x : List Int} (h : InM M x) (i : Nat) {v : Int} (hv : -M ≤ v ∧ v ≤ M) : InM M (x.set i v) := by
 intro u hu
 rcases List.mem_or_eq_of_mem_set hu with h1 | h1
 ·exact h u h1
 ·rw [h1]; exact hv
theorem grow_in {M N : Int} {x : List Int} (h : InM M x) (hN : M ≤ N) : InM N x := fun v hv => by have := h v hv; omega
theorem rowT_in {M : Int} {x : List Int} (hM : 0 ≤ M) (hM' : M ≤ 200000000000) (h : InM M x) (r : Nat) : InM (4 * M + 4) (rowT b4 x r) := by
 unfold rowT
 have s := b4_small hM' (rd_in hM h r) (rd_in hM h (r + 1 : Nat)) (rd_in hM h (r + 2 : Nat)) (rd_in hM h (r + 3 : Nat))
 exact set_in (set_in (set_in (set_in (grow_in h (by omega)) _ s.1) _ s.2.1) _ s.2.2.1) _ s.2.2.2
theorem colT_in {M : Int} {x : List Int} (hM : 0 ≤ M) (hM' : M ≤ 200000000000) (h : InM M x) (r : Nat) : InM (4 * M + 4) (colT b4 x r) := by
 unfold colT
 have s := b4_small hM' (rd_in hM h r) (rd_in hM h (r + 4 : Nat)) (rd_in hM h (r + 8 : Nat)) (rd_in hM h (r + 12 : Nat))
 exact set_in (set_in (set_in (set_in (grow_in h (by omega)) _ s.1) _ s.2.1) _ s.2.2.1) _ s.2.2.2
theorem turned_small {x : List Int} (h : FbOk x) : ∀ v ∈ turnedL b4 x, -1000000000000 ≤ v ∧ v ≤ 1000000000000 := by
 have h0 : InM 10000000 x := fun v hv => by have := allB_iff.1 h.2 v hv; omega
 have h1 := rowT_in (by omega) (by omega) h0 (4 * 0)
 have h2 := rowT_in (by omega) (by omega) h1 (4 * 1)
 have h3 := rowT_in (by omega) (by omega) h2 (4 * 2)
 have h4 := rowT_in (by omega) (by omega) h3 (4 * 3)
 have h5 := colT_in (by omega) (by omega) h4 0
 have h6 := colT_in (by omega) (by omega) h5 1
 have h7 := colT_in (by omega) (by omega) h6 2
 have h8 := colT_in (by omega) (by omega) h7 3
 exact grow_in h8 (by omega)
theorem fourback_ev (x : List Int) (hx : x.length ≤ 17592186043904) : Ev (fun k => impl_FourBack.f k x) (fbv x) := by
 unfold impl_FourBack.f fbv
 refine Ev.bind (areIn_ev x 16 (-10000000) 10000000 hx) ?_
 rw [len_dec4 x 16 16 rfl]
 by_cases c : FbOk x
 ·rw [if_pos c, decide_eq_true c.1, c.2]
  simp only [Bool.and_self, if_true]
  simp only [if_pos c.1]
  exact Ev.bind (settled_ev _ (by rw [turnedL_len, c.1]; omega) (turned_small c)) (Ev.now _)
 ·rw [if_neg c, and_false4 c]
  simp only [Bool.false_eq_true, if_false]; exact Ev.now _
def backsB : Nat → List Int → List Int → Int → Option (List Int)
 | 0, _, _, _ => none
 | k + 1, x0, x3, x4 => if x4 < 4 then (if 0 ≤ (wrap64 (4 * x4)) then (if (wrap64 (4 * x4)) < (x0.length : Int) then (if 0 ≤ (wrap64 ((wrap64 (4 * x4)) + 1)) then (if (wrap64 ((wrap64 (4 * x4)) + 1)) < (x0.length : Int) then (if 0 ≤ (wrap64 ((wrap64 (4 * x4)) + 2)) then (if (wrap64 ((wrap64 (4 * x4)) + 2)) < (x0.length : Int) then (if 0 ≤ (wrap64 ((wrap64 (4 * x4)) + 3)) then (if (wrap64 ((wrap64 (4 * x4)) + 3)) < (x0.length : Int) then ((some (fl2 (rd x0 (wrap64 ((wrap64 (4 * x4)) + 1))))).bind fun t135 => ((some (fl2 (rd x0 (wrap64 ((wrap64 (4 * x4)) + 3))))).bind fun t136 => ((some (([wrap64 ((wrap64 ((rd x0 (wrap64 (4 * x4))) + (rd x0 (wrap64 ((wrap64 (4 * x4)) + 2))))) + (wrap64 ((rd x0 (wrap64 ((wrap64 (4 * x4)) + 1))) + t136))), wrap64 ((wrap64 ((rd x0 (wrap64 (4 * x4))) - (rd x0 (wrap64 ((wrap64 (4 * x4)) + 2))))) + (wrap64 (t135 - (rd x0 (wrap64 ((wrap64 (4 * x4)) + 3)))))), wrap64 ((wrap64 ((rd x0 (wrap64 (4 * x4))) - (rd x0 (wrap64 ((wrap64 (4 * x4)) + 2))))) - (wrap64 (t135 - (rd x0 (wrap64 ((wrap64 (4 * x4)) + 3)))))), wrap64 ((wrap64 ((rd x0 (wrap64 (4 * x4))) + (rd x0 (wrap64 ((wrap64 (4 * x4)) + 2))))) - (wrap64 ((rd x0 (wrap64 ((wrap64 (4 * x4)) + 1))) + t136)))] : List Int) : List Int)).bind fun y137 => (if x3.length + y137.length < 17592186044416 then (backsB k x0 (x3 ++ y137) (wrap64 (x4 + 1))) else (none))))) else (none)) else (none)) else (none)) else (none)) else (none)) else (none)) else (none)) else (none)) else (some x3)
theorem sdown2 (x : Int) : spec_l09Down.f x 2 = some (fl2 x) := by
 unfold spec_l09Down.f fl2
 rw [if_neg (by decide)]
 split <;> rfl
theorem backs_eq : ∀ k x0 x3 x4, spec_l09Backs.l0 k x0 x3 x4 = backsB k x0 x3 x4
 | 0, _, _, _ => rfl
 | k + 1, x0, x3, x4 => by simp only [spec_l09Backs.l0, backsB, sdown2, backs_eq k]
theorem backsf_eq (k : Nat) (x : List Int) : spec_l09Backs.f k x = backsB k x [] 0 := backs_eq k x [] 0
def sfbF (k : Nat) (x : List Int) : Option (List Int) := (backsB k x [] 0).bind fun t147 => ((spec_l09Flip.f k t147).bind fun t150 => ((backsB k t150 [] 0).bind fun t153 => ((spec_l09Flip.f k t153).bind fun t156 => (some t156))))
theorem sfourback16 (a0 a1 a2 a3 a4 a5 a6 a7 a8 a9 a10 a11 a12 a13 a14 a15 : Int) (k : Nat) : sfbF (k + 17) [a0, a1, a2, a3, a4, a5, a6, a7, a8, a9, a10, a11, a12, a13, a14, a15] = some (turnedL b4 [a0, a1, a2, a3, a4, a5, a6, a7, a8, a9, a10, a11, a12, a13, a14, a15]) := by kernel_rfl
theorem sfb_loop (l : List Int) (hl : l.length = 16) (hb : ∀ x ∈ l, -1000000000000 ≤ x ∧ x ≤ 1000000000000) : Ev (fun k => spec_FourBack.l0 k l 0) (settledL l) := by
 have H : ∀ i, i ≤ l.length → Ev (fun k => spec_FourBack.l0 k (setTo l i) (i : Int)) (settledL l) := by
  refine down l.length ?_ ?_
  ·refine Ev.step (f := fun _ => some (settledL l)) (fun k => ?_) (Ev.now _)
   simp only [spec_FourBack.l0]
   rw [if_neg (by omega), setTo_end]
  ·intro i hi h
   have hx := hb l[i] (List.getElem_mem _)
   refine Ev.step (fun k => ?_) h
   simp only [spec_FourBack.l0]
   rw [if_pos (by omega), if_pos (by omega), if_pos (by rw [setTo_len l i (by omega)]; omega), setTo_rd l i hi]
   unfold spec_l09Down.f
   rw [down_eq hx.1 hx.2, Option.bind_some, Int.toNat_natCast, setTo_set l i hi, wrap_id (by omega) (by omega), cast1]
 exact H 0 (by omega)
theorem sfourback_ev (x : List Int) (hx : x.length ≤ 17592186043904) : Ev (fun k => spec_FourBack.f k x) (fbv x) := by
 unfold spec_FourBack.f fbv
 refine Ev.bind (all_ev x 16 10000000 hx (by omega) (by omega)) ?_
 rw [len_dec4 x 16 16 rfl]
 by_cases c : FbOk x
 ·rw [if_pos c, decide_eq_true c.1, c.2]
  simp only [Bool.and_self, if_true, backsf_eq]
  have hs := sfb_loop _ (by rw [turnedL_len, c.1]) (turned_small c)
  obtain ⟨a0, a1, a2, a3, a4, a5, a6, a7, a8, a9, a10, a11, a12, a13, a14, a15, rfl⟩ := list16 x c.1
  have h16 : Ev (fun k => sfbF k [a0, a1, a2, a3, a4, a5, a6, a7, a8, a9, a10, a11, a12, a13, a14, a15]) (turnedL b4 [a0, a1, a2, a3, a4, a5, a6, a7, a8, a9, a10, a11, a12, a13, a14, a15]) := Ev.from 17 (fun k => sfourback16 a0 a1 a2 a3 a4 a5 a6 a7 a8 a9 a10 a11 a12 a13 a14 a15 k)
  generalize turnedL b4 [a0, a1, a2, a3, a4, a5, a6, a7, a8, a9, a10, a11, a12, a13, a14, a15] = TB at h16 hs
  generalize [a0, a1, a2, a3, a4, a5, a6, a7, a8, a9, a10, a11, a12, a13, a14, a15] = x0 at h16
  refine Ev.congr (f := fun k => (sfbF k x0).bind fun t => spec_FourBack.l0 k t 0) (fun k => ?_) (Ev.bind h16 hs)
  unfold sfbF
  simp only [Option.bind_assoc, Option.bind_some]
 ·rw [if_neg c, and_false4 c]
  simp only [Bool.false_eq_true, if_false]; exact Ev.now _
def ord4 : List Int := [0, 1, 4, 8, 5, 2, 3, 6, 9, 12, 13, 10, 7, 11, 14, 15]
def ord8 : List Int := [0, 1, 8, 16, 9, 2, 3, 10, 17, 24, 32, 25, 18, 11, 4, 5, 12, 19, 26, 33, 40, 48, 41, 34, 27, 20, 13, 6, 7, 14, 21, 28, 35, 42, 49, 56, 57, 50, 43, 36, 29, 22, 15, 23, 30, 37, 44, 51, 58, 59, 52, 45, 38, 31, 39, 46, 53, 60, 61, 54, 47, 55, 62, 63]
def ordOf (side : Int) : List Int := if side = 4 then ord4 else ord8
/-- A side and its number of places. -/
def SideN (side : Int) (n : Nat) : Prop := side = 4 ∧ n = 16 ∨ side = 8 ∧ n = 64
theorem ord_len {side : Int} {n : Nat} (h : SideN side n) : (ordOf side).length = n := by rcases h with ⟨rfl, rfl⟩ | ⟨rfl, rfl⟩ <;> rfl
theorem ord_in {side : Int} {n : Nat} (h : SideN side n) : ∀ x ∈ ordOf side, 0 ≤ x ∧ x < (n : Int) := by
 rcases h with ⟨rfl, rfl⟩ | ⟨rfl, rfl⟩
 ·decide +kernel
 ·decide +kernel
theorem order4 : impl_scanOrder.f 100 4 = some ord4 := by decide +kernel
theorem order8 : impl_scanOrder.f 300 8 = some ord8 := by decide +kernel
theorem order_ev {side : Int} {n : Nat} (h : SideN side n) : Ev (fun k => impl_scanOrder.f k side) (ordOf side) := by
 rcases h with ⟨rfl, rfl⟩ | ⟨rfl, rfl⟩
 ·exact Ev.of (fun k => impl_scanOrder.mono _ _) order4
 ·exact Ev.of (fun k => impl_scanOrder.mono _ _) order8
theorem sat4 : ∀ j : Fin 16, spec_ScanAt.f 200 4 (j.val : Int) = some (rd ord4 (j.val : Int)) := by decide +kernel
theorem sat8 : ∀ j : Fin 64, spec_ScanAt.f 400 8 (j.val : Int) = some (rd ord8 (j.val : Int)) := by decide +kernel
theorem sat_ev {side : Int} {n : Nat} (h : SideN side n) (i : Nat) (hi : i < n) : Ev (fun k => spec_ScanAt.f k side (i : Int)) (rd (ordOf side) (i : Int)) := by
 rcases h with ⟨rfl, rfl⟩ | ⟨rfl, rfl⟩
 ·exact Ev.of (fun k => spec_ScanAt.mono _ _ _) (sat4 ⟨i, hi⟩)
 ·exact Ev.of (fun k => spec_ScanAt.mono _ _ _) (sat8 ⟨i, hi⟩)
def ScOk (side : Int) (l : List Int) : Prop := (side = 4 ∧ l.length = 16) ∨ (side = 8 ∧ l.length = 64)
instance (side : Int) (l : List Int) : Decidable (ScOk side l) := by unfold ScOk; infer_instance
theorem scok_side {side : Int} {l : List Int} (h : ScOk side l) : SideN side l.length := by rcases h with ⟨rfl, e⟩ | ⟨rfl, e⟩ <;> rw [e] <;> simp [SideN]
/-- The list that comes of the order of the scan, from place i on. -/
def unsc (side : Int) (l : List Int) : Nat → Nat → List Int → List Int
 | 0, _, out => out
 | d + 1, i, out => unsc side l d (i + 1) (out.set (rd (ordOf side) (i : Int)).toNat (rd l (i : Int)))
theorem unsc_len (side : Int) (l : List Int) (d : Nat) : ∀ i out, (unsc side l d i out).length = out.length := by
 induction d with
 | zero => intro i out; rfl
 | succ d ih => intro i out; simp only [unsc]; rw [ih]; simp
def unscv (side : Int) (l : List Int) : List Int := unsc side l l.length 0 (List.replicate l.length 0)
theorem unscv_len (side : Int) (l : List Int) : (unscv side l).length = l.length := by unfold unscv; rw [unsc_len]; simp
theorem unscanned_loop {side : Int} {l : List Int} (h : SideN side l.length) : ∀ i, i ≤ l.length → ∀ out : List Int, out.length = l.length → Ev (fun k => impl_Unscanned.l0 k l out (ordOf side) ((ordOf side).length : Int) (i : Int)) (unsc side l (l.length - i) i out, true) := by
 have hn := ord_len h
 have hlen : l.length ≤ 64 := by rcases h with ⟨_, e⟩ | ⟨_, e⟩ <;> omega
 refine down l.length ?_ ?_
 ·intro out _
  rw [Nat.sub_self]
  refine Ev.step (f := fun _ => some (out, true)) (fun k => ?_) (Ev.now _)
  simp only [impl_Unscanned.l0]
  rw [if_neg (by omega)]
 ·intro i hi hh out ho
  have e1 : l.length - i = (l.length - (i + 1)) + 1 := by omega
  rw [e1]
  have hb : 0 ≤ rd (ordOf side) (i : Int) ∧ rd (ordOf side) (i : Int) < (l.length : Int) := by
   rw [rd_nat _ i (by omega)]; exact ord_in h _ (List.getElem_mem (by omega))
  refine Ev.step (fun k => ?_) (hh (out.set (rd (ordOf side) (i : Int)).toNat (rd l (i : Int))) (by simpa using ho))
  simp only [impl_Unscanned.l0]
  rw [if_pos (by omega), if_pos (by omega), if_pos (by omega), if_pos (by omega), if_pos hb.1, if_pos (by omega), wrap_id (by omega) (by omega), cast1]
theorem unscanned_ev (side : Int) (l : List Int) : Ev (fun k => impl_Unscanned.f k side l) (if ScOk side l then (unscv side l, true) else ([], false)) := by
 unfold impl_Unscanned.f
 have hbad : Ev (fun k => impl_Unscanned.j0 k side l true) ([], false) := Ev.step (f := fun _ => some ([], false)) (fun k => by simp only [impl_Unscanned.j0]; rfl) (Ev.now _)
 have hok : ScOk side l → Ev (fun k => impl_Unscanned.j0 k side l false) (unscv side l, true) := fun h => by
  have hlen : l.length ≤ 64 := by rcases h with ⟨_, e⟩ | ⟨_, e⟩ <;> omega
  refine Ev.step (fun k => by simp only [impl_Unscanned.j0, Bool.false_eq_true, if_false]; rw [if_pos (by omega), if_pos (by simp; omega), Int.toNat_natCast]) (Ev.bind (order_ev (scok_side h)) ?_)
  exact unscanned_loop (scok_side h) 0 (by omega) _ (by simp)
 by_cases c4 : side = 4
 ·subst c4
  rw [wrap_id (x := 4 * 4) (by omega) (by omega)]
  by_cases c : l.length = 16
  ·rw [if_pos (.inl ⟨rfl, c⟩)]
   simp only [if_true, c, show (((16 : Nat) : Int) != 4 * 4) = false from by decide]
   exact hok (.inl ⟨rfl, c⟩)
  ·rw [if_neg (by rintro (⟨_, h⟩ | ⟨h, _⟩); exact c h; exact absurd h (by decide))]
   simp only [if_true, show ((l.length : Int) != 4 * 4) = true from by rw [bne_iff_ne]; omega]
   exact hbad
 ·by_cases c8 : side = 8
  ·subst c8
   simp only [if_neg c4]
   rw [wrap_id (x := 8 * 8) (by omega) (by omega)]
   by_cases c : l.length = 64
   ·rw [if_pos (.inr ⟨rfl, c⟩)]
    simp only [if_true, c, show (((64 : Nat) : Int) != 8 * 8) = false from by decide]
    exact hok (.inr ⟨rfl, c⟩)
   ·rw [if_neg (by rintro (⟨h, _⟩ | ⟨_, h⟩); exact absurd h (by decide); exact c h)]
    simp only [if_true, show ((l.length : Int) != 8 * 8) = true from by rw [bne_iff_ne]; omega]
    exact hbad
  ·rw [if_neg (by rintro (⟨h, _⟩ | ⟨h, _⟩); exact c4 h; exact c8 h)]
   simp only [if_neg c4, if_neg c8]
   exact hbad
theorem sunscanned_loop {side : Int} {l : List Int} (h : SideN side l.length) : ∀ i, i ≤ l.length → ∀ out : List Int, out.length = l.length → Ev (fun k => spec_Unscanned.l0 k side l out (i : Int)) (unsc side l (l.length - i) i out, true) := by
 have hn := ord_len h
 have hlen : l.length ≤ 64 := by rcases h with ⟨_, e⟩ | ⟨_, e⟩ <;> omega
 have hsq : wrap64 (side * side) = (l.length : Int) := by rcases h with ⟨rfl, e⟩ | ⟨rfl, e⟩ <;> rw [e] <;> decide +kernel
 refine down l.length ?_ ?_
 ·intro out _
  rw [Nat.sub_self]
  refine Ev.step (f := fun _ => some (out, true)) (fun k => ?_) (Ev.now _)
  simp only [spec_Unscanned.l0]
  rw [hsq, if_neg (by omega)]
 ·intro i hi hh out ho
  have e1 : l.length - i = (l.length - (i + 1)) + 1 := by omega
  rw [e1]
  have hb : 0 ≤ rd (ordOf side) (i : Int) ∧ rd (ordOf side) (i : Int) < (l.length : Int) := by
   rw [rd_nat _ i (by omega)]; exact ord_in h _ (List.getElem_mem (by omega))
  refine Ev.step (fun k => by simp only [spec_Unscanned.l0]; rw [hsq, if_pos (by omega)]) (Ev.bind (sat_ev h i hi) ?_)
  refine Ev.congr (fun k => ?_) (hh (out.set (rd (ordOf side) (i : Int)).toNat (rd l (i : Int))) (by simpa using ho))
  rw [if_pos (by omega), if_pos (by omega), if_pos hb.1, if_pos (by omega), wrap_id (by omega) (by omega), cast1]
theorem sunscanned_ev (side : Int) (l : List Int) : Ev (fun k => spec_Unscanned.f k side l) (if ScOk side l then (unscv side l, true) else ([], false)) := by
 unfold spec_Unscanned.f
 have hbad : Ev (fun k => spec_Unscanned.j0 k side l true) ([], false) := Ev.step (f := fun _ => some ([], false)) (fun k => by simp only [spec_Unscanned.j0]; rfl) (Ev.now _)
 have hok : ScOk side l → Ev (fun k => spec_Unscanned.j0 k side l false) (unscv side l, true) := fun h => by
  have hlen : l.length ≤ 64 := by rcases h with ⟨_, e⟩ | ⟨_, e⟩ <;> omega
  refine Ev.step (fun k => by simp only [spec_Unscanned.j0, Bool.false_eq_true, if_false]; rw [if_pos (by omega), if_pos (by simp; omega), Int.toNat_natCast]) ?_
  exact sunscanned_loop (scok_side h) 0 (by omega) _ (by simp)
 by_cases c4 : side = 4
 ·subst c4
  rw [wrap_id (x := 4 * 4) (by omega) (by omega)]
  by_cases c : l.length = 16
  ·rw [if_pos (.inl ⟨rfl, c⟩)]
   simp only [if_true, c, show (((16 : Nat) : Int) != 4 * 4) = false from by decide]
   exact hok (.inl ⟨rfl, c⟩)
  ·rw [if_neg (by rintro (⟨_, h⟩ | ⟨h, _⟩); exact c h; exact absurd h (by decide))]
   simp only [if_true, show ((l.length : Int) != 4 * 4) = true from by rw [bne_iff_ne]; omega]
   exact hbad
 ·by_cases c8 : side = 8
  ·subst c8
   simp only [if_neg c4]
   rw [wrap_id (x := 8 * 8) (by omega) (by omega)]
   by_cases c : l.length = 64
   ·rw [if_pos (.inr ⟨rfl, c⟩)]
    simp only [if_true, c, show (((64 : Nat) : Int) != 8 * 8) = false from by decide]
    exact hok (.inr ⟨rfl, c⟩)
   ·rw [if_neg (by rintro (⟨h, _⟩ | ⟨_, h⟩); exact absurd h (by decide); exact c h)]
    simp only [if_true, show ((l.length : Int) != 8 * 8) = true from by rw [bne_iff_ne]; omega]
    exact hbad
  ·rw [if_neg (by rintro (⟨h, _⟩ | ⟨h, _⟩); exact c4 h; exact c8 h)]
   simp only [if_neg c4, if_neg c8]
   exact hbad
def atq (k i : Nat) : Nat := 8 * (k / 2 * 4 + i / 4) + k % 2 * 4 + i % 4
def qL (k : Nat) : List Int := (List.range 16).map fun i => (atq k i : Int)
theorem qL_len (k : Nat) : (qL k).length = 16 := by simp [qL]
theorem atq_lt (k i : Nat) (hk : k < 4) (hi : i < 16) : atq k i < 64 := by unfold atq; omega
theorem qL_rd (k i : Nat) (hi : i < 16) : rd (qL k) (i : Int) = (atq k i : Int) := by
 rw [rd_nat _ i (by rw [qL_len]; exact hi)]; simp [qL]
theorem mix_rd (m l : List Int) (i : Nat) (hi : i < l.length) (h : m.length = l.length) : rd (m.take i ++ l.drop i) (i : Int) = l[i] := by
 unfold rd
 rw [Int.toNat_natCast, List.getD_eq_getElem?_getD, List.getElem?_append_right (by rw [List.length_take]; omega), List.length_take, Nat.min_eq_left (by omega), Nat.sub_self, List.getElem?_drop, Nat.add_zero, List.getElem?_eq_getElem hi]
 rfl
theorem atq_fin : ∀ (k : Fin 4) (i : Fin 16), (wrap64 ((wrap64 ((wrap64 (8 * (wrap64 ((wrap64 ((wrap64 (Int.tdiv (k.val : Int) 2)) * 4)) + (wrap64 (Int.tdiv (i.val : Int) 4)))))) + (wrap64 ((Int.tmod (k.val : Int) 2) * 4)))) + (Int.tmod (i.val : Int) 4))) = (atq k.val i.val : Int) := by decide +kernel
theorem quarter_fin : ∀ k : Fin 4, impl_quarter.f 60 (k.val : Int) = some (qL k.val) := by decide +kernel
theorem quarter_ev (k : Nat) (hk : k < 4) : Ev (fun n => impl_quarter.f n (k : Int)) (qL k) := Ev.of (fun n => impl_quarter.mono _ _) (quarter_fin ⟨k, hk⟩)
def condB (q : Int) (l e : Bool) : Bool := decide (0 ≤ q ∧ q ≤ 40) && !(l && e)
theorem cond_val (a : Bool) (q : Int) (l e : Bool) : impl_CondOk.f a q l e = some (condB q l e) := by
 unfold impl_CondOk.f condB
 rw [within_eq, Option.bind_some]
 by_cases c : 0 ≤ q ∧ q ≤ 40
 ·simp only [c, and_self, decide_true, if_true, Bool.true_and]
  cases l <;> cases e <;> rfl
 ·simp only [c, decide_false, Bool.false_eq_true, if_false, Bool.false_and]
theorem scond_val (a : Bool) (q : Int) (l e : Bool) : spec_CondOk.f a q l e = some (condB q l e) := by
 unfold spec_CondOk.f condB
 rw [in_eq, Option.bind_some]
 by_cases c : 0 ≤ q ∧ q ≤ 40
 ·simp only [c, and_self, decide_true, if_true, Bool.true_and]
  cases l <;> cases e <;> rfl
 ·simp only [c, decide_false, Bool.false_eq_true, if_false, Bool.false_and]
def sg (u k : Nat) : Int := if (u % 2 * (k % 2) + u / 2 % 2 * (k / 2 % 2) + u / 4 % 2 * (k / 4 % 2)) % 2 = 0 then 1 else -1
theorem sg_one (u k : Nat) : sg u k = 1 ∨ sg u k = -1 := by unfold sg; split <;> simp
/-- The sum of f 0 .. f (n - 1). -/
def sm (f : Nat → Int) : Nat → Int
 | 0 => 0
 | n + 1 => sm f n + f n
theorem sm_bound (f : Nat → Int) (B : Int) (n : Nat) (h : ∀ k, k < n → -B ≤ f k ∧ f k ≤ B) : -((n : Int) * B) ≤ sm f n ∧ sm f n ≤ (n : Int) * B := by
 induction n with
 | zero => simp [sm]
 | succ n ih =>
  have h1 := ih (fun k hk => h k (by omega))
  have h2 := h n (by omega)
  have e : ((n + 1 : Nat) : Int) * B = (n : Int) * B + B := by rw [show ((n + 1 : Nat) : Int) = (n : Int) + 1 from rfl, Int.add_mul, Int.one_mul]
  simp only [sm]; rw [e]; omega
theorem sgmul_bound {B x : Int} (u k : Nat) (h : -B ≤ x ∧ x ≤ B) : -B ≤ sg u k * x ∧ sg u k * x ≤ B := by
 rcases sg_one u k with e | e <;> rw [e] <;> omega
def halfAt (x : List Int) (i : Nat) (k : Nat) : Int := sg (i % 8) k * rd x ((8 * (i / 8) + k : Nat) : Int)
def halfv (x : List Int) : List Int := (List.range 64).map fun i => sm (halfAt x i) 8
def outAt (h : List Int) (i : Nat) (j : Nat) : Int := sg (i / 8) j * rd h ((8 * j + i % 8 : Nat) : Int)
def sums2 (h : List Int) : List Int := (List.range 64).map fun i => sm (outAt h i) 8
def sumsv (x : List Int) : List Int := sums2 (halfv x)
theorem halfv_len (x : List Int) : (halfv x).length = 64 := by simp [halfv]
theorem sums2_len (x : List Int) : (sums2 x).length = 64 := by simp [sums2]
theorem sumsv_len (x : List Int) : (sumsv x).length = 64 := sums2_len _
theorem halfv_get (x : List Int) (i : Nat) (h : i < (halfv x).length) : (halfv x)[i] = sm (halfAt x i) 8 := by simp [halfv]
theorem sums2_get (x : List Int) (i : Nat) (h : i < (sums2 x).length) : (sums2 x)[i] = sm (outAt x i) 8 := by simp [sums2]
theorem allB_at {lo hi : Int} {l : List Int} (h : allB lo hi l = true) (i : Nat) (hi' : i < l.length) : lo ≤ rd l (i : Int) ∧ rd l (i : Int) ≤ hi := by
 rw [rd_nat l i hi']; exact allB_iff.1 h _ (List.getElem_mem _)
theorem half_bound {x : List Int} {M : Int} (hx : x.length = 64) (h : allB (-M) M x = true) (i : Nat) (hi : i < 64) (n : Nat) (hn : n ≤ 8) : -((n : Int) * M) ≤ sm (halfAt x i) n ∧ sm (halfAt x i) n ≤ (n : Int) * M :=
 sm_bound _ M n fun k hk => sgmul_bound _ _ (allB_at h _ (by omega))
theorem halfv_all {x : List Int} {M : Int} (hx : x.length = 64) (h : allB (-M) M x = true) : allB (-(8 * M)) (8 * M) (halfv x) = true := by
 rw [allB_iff]
 intro v hv
 obtain ⟨i, hi, rfl⟩ := List.mem_iff_getElem.1 hv
 rw [halfv_get]
 have := half_bound hx h i (by rw [halfv_len] at hi; exact hi) 8 (by omega)
 omega
theorem out_bound {x : List Int} {M : Int} (hx : x.length = 64) (h : allB (-M) M x = true) (i : Nat) (hi : i < 64) (n : Nat) (hn : n ≤ 8) : -((n : Int) * M) ≤ sm (outAt x i) n ∧ sm (outAt x i) n ≤ (n : Int) * M :=
 sm_bound _ M n fun k hk => sgmul_bound _ _ (allB_at h _ (by omega))
theorem sums2_all {x : List Int} {M : Int} (hx : x.length = 64) (h : allB (-M) M x = true) : allB (-(8 * M)) (8 * M) (sums2 x) = true := by
 rw [allB_iff]
 intro v hv
 obtain ⟨i, hi, rfl⟩ := List.mem_iff_getElem.1 hv
 rw [sums2_get]
 have := out_bound hx h i (by rw [sums2_len] at hi; exact hi) 8 (by omega)
 omega
theorem sumsv_all {x : List Int} {M : Int} (hx : x.length = 64) (h : allB (-M) M x = true) : allB (-(64 * M)) (64 * M) (sumsv x) = true := by
 have h2 := sums2_all (halfv_len x) (halfv_all hx h)
 rw [show 8 * (8 * M) = 64 * M by omega] at h2
 exact h2
/-- The first p of l, then noughts, 64 in all. -/
def fillB (l : List Int) (p : Nat) : List Int := l.take p ++ (List.replicate 64 (0 : Int)).drop p
theorem fill_len (l : List Int) (hl : l.length = 64) (p : Nat) (hp : p ≤ 64) : (fillB l p).length = 64 := by
 unfold fillB; rw [mix_length _ _ _ (by simp [hl]) (by omega)]; exact hl
theorem fill_set0 (l : List Int) (hl : l.length = 64) (p : Nat) (hp : p < 64) : (fillB l p).set p 0 = fillB l p := by
 have e : fillB l p = l.take p ++ (0 :: (List.replicate 64 (0 : Int)).drop (p + 1)) := by
  unfold fillB
  rw [List.drop_eq_getElem_cons (by simp; omega), List.getElem_replicate]
 rw [e, List.set_append_right _ _ (by simp; omega), show p - (l.take p).length = 0 by simp; omega, List.set_cons_zero]
theorem fill_set1 (l : List Int) (hl : l.length = 64) (p : Nat) (hp : p < 64) : (fillB l p).set p (l[p]'(by omega)) = fillB l (p + 1) := mix_set l _ p (by omega) (by simp; omega)
theorem fill_rd (l : List Int) (hl : l.length = 64) (p : Nat) (hp : p < 64) (y : Int) : rd ((fillB l p).set p y) (p : Int) = y := by
 rw [rd_nat _ p (by rw [List.length_set, fill_len l hl p (by omega)]; exact hp), List.getElem_set_self]
theorem fill_end (l : List Int) (hl : l.length = 64) : fillB l 64 = l := by
 have := mix_end l (List.replicate 64 (0 : Int)) (by simp [hl])
 rw [hl] at this; exact this
theorem idx8 (r v : Nat) (hr : r < 8) (hv : v < 8) : wrap64 (wrap64 (8 * (r : Int)) + (v : Int)) = ((8 * r + v : Nat) : Int) := by
 rw [wrap_id (x := 8 * (r : Int)) (by omega) (by omega), wrap_id (by omega) (by omega)]; omega
theorem sign_fin : ∀ i j : Fin 8, impl_SignOf.f 3 (i.val : Int) (j.val : Int) = some (sg i.val j.val) := by decide +kernel
theorem sign_ev (u k : Nat) (hu : u < 8) (hk : k < 8) : Ev (fun n => impl_SignOf.f n (u : Int) (k : Int)) (sg u k) := Ev.of (fun n => impl_SignOf.mono _ _ _) (sign_fin ⟨u, hu⟩ ⟨k, hk⟩)
theorem ssign_fin : ∀ i j : Fin 8, spec_SignOf.f 12 (i.val : Int) (j.val : Int) = some (sg i.val j.val) := by decide +kernel
theorem ssign_ev (u k : Nat) (hu : u < 8) (hk : k < 8) : Ev (fun n => spec_SignOf.f n (u : Int) (k : Int)) (sg u k) := Ev.of (fun n => spec_SignOf.mono _ _ _) (ssign_fin ⟨u, hu⟩ ⟨k, hk⟩)
theorem sums_l2 (x : List Int) (hx : x.length = 64) (M : Int) (hM : M ≤ 1000000000) (hb : allB (-M) M x = true) (r v : Nat) (hr : r < 8) (hv : v < 8) (R : List Int)
  (hh : Ev (fun k => impl_sums.l1 k x (fillB (halfv x) (8 * r + v + 1)) (r : Int) (r : Int) ((v + 1 : Nat) : Int)) R) :
  ∀ m : Nat, m ≤ 8 → Ev (fun k => impl_sums.l2 k x ((fillB (halfv x) (8 * r + v)).set (8 * r + v) (sm (halfAt x (8 * r + v)) m)) (r : Int) (v : Int) (r : Int) (v : Int) (m : Int)) R := by
 have hl := halfv_len x
 refine down 8 ?_ ?_
 ·refine Ev.step (fun k => ?_) hh
  simp only [impl_sums.l2]
  rw [if_neg (by omega), ← halfv_get x (8 * r + v) (by omega), fill_set1 _ hl _ (by omega), wrap_id (by omega) (by omega), cast1]
 ·intro m hm h'
  have b1 := half_bound hx hb (8 * r + v) (by omega) m (by omega)
  have b2 : -M ≤ sg v m * rd x ((8 * r + m : Nat) : Int) ∧ sg v m * rd x ((8 * r + m : Nat) : Int) ≤ M := sgmul_bound _ _ (allB_at hb _ (by omega))
  have b3 : (m : Int) * M ≤ 8 * 1000000000 ∧ 0 ≤ (m : Int) * M := by
   have h0 : 0 ≤ M := by omega
   exact ⟨Int.mul_le_mul (by omega) hM h0 (by omega), Int.mul_nonneg (by omega) h0⟩
  have e : sm (halfAt x (8 * r + v)) (m + 1) = sm (halfAt x (8 * r + v)) m + sg v m * rd x ((8 * r + m : Nat) : Int) := by
   simp only [sm, halfAt]
   rw [show (8 * r + v) % 8 = v by omega, show (8 * r + v) / 8 = r by omega]
  refine Ev.step (f := fun k => (impl_SignOf.f k (v : Int) (m : Int)).bind fun t => impl_sums.l2 k x (((fillB (halfv x) (8 * r + v)).set (8 * r + v) (sm (halfAt x (8 * r + v)) m)).set (8 * r + v) (wrap64 (sm (halfAt x (8 * r + v)) m + wrap64 (t * rd x ((8 * r + m : Nat) : Int))))) (r : Int) (v : Int) (r : Int) (v : Int) ((m + 1 : Nat) : Int)) (fun k => ?_) (Ev.bind (sign_ev v m hv hm) ?_)
  ·simp only [impl_sums.l2]
   rw [if_pos (by omega), idx8 r v hr hv, idx8 r m hr hm, if_pos (by omega), if_pos (by rw [List.length_set, fill_len _ hl _ (by omega)]; omega), fill_rd _ hl _ (by omega), wrap_id (x := (m : Int) + 1) (by omega) (by omega), cast1]
   congr 1
   funext t
   rw [if_pos (by omega), if_pos (by omega), Int.toNat_natCast]
  ·rw [List.set_set, wrap_id (x := sg v m * _) (by omega) (by omega), wrap_id (by omega) (by omega), ← e]
   exact h'
theorem sums_l1 (x : List Int) (hx : x.length = 64) (M : Int) (hM : M ≤ 1000000000) (hb : allB (-M) M x = true) (r : Nat) (hr : r < 8) (R : List Int)
  (hh : Ev (fun k => impl_sums.l0 k x (fillB (halfv x) (8 * (r + 1))) ((r + 1 : Nat) : Int)) R) :
  ∀ v : Nat, v ≤ 8 → Ev (fun k => impl_sums.l1 k x (fillB (halfv x) (8 * r + v)) (r : Int) (r : Int) (v : Int)) R := by
 refine down 8 ?_ ?_
 ·refine Ev.step (fun k => ?_) hh
  simp only [impl_sums.l1]
  rw [if_neg (by omega), wrap_id (by omega) (by omega), cast1]; rfl
 ·intro v hv h'
  refine Ev.step (fun k => ?_) (sums_l2 x hx M hM hb r v hr hv R h' 0 (by omega))
  simp only [impl_sums.l1]
  rw [if_pos (by omega), sm, fill_set0 _ (halfv_len x) _ (by omega)]; rfl
theorem sums_l0 (x : List Int) (hx : x.length = 64) (M : Int) (hM : M ≤ 1000000000) (hb : allB (-M) M x = true) (R : List Int)
  (hh : Ev (fun k => impl_sums.l3 k (halfv x) (List.replicate 64 0) 0) R) :
  ∀ r : Nat, r ≤ 8 → Ev (fun k => impl_sums.l0 k x (fillB (halfv x) (8 * r)) (r : Int)) R := by
 refine down 8 ?_ ?_
 ·refine Ev.step (fun k => ?_) hh
  simp only [impl_sums.l0]
  rw [if_neg (by omega), if_pos (by decide), fill_end _ (halfv_len x)]
 ·intro r hr h'
  refine Ev.step (fun k => ?_) (sums_l1 x hx M hM hb r hr R h' 0 (by omega))
  simp only [impl_sums.l0]
  rw [if_pos (by omega)]; rfl
theorem sums_l5 (x : List Int) (hx : x.length = 64) (M : Int) (hM : M ≤ 1000000000) (hb : allB (-M) M x = true) (r v : Nat) (hr : r < 8) (hv : v < 8) (R : List Int)
  (hh : Ev (fun k => impl_sums.l4 k x (fillB (sums2 x) (8 * r + v + 1)) (r : Int) (r : Int) ((v + 1 : Nat) : Int)) R) :
  ∀ m : Nat, m ≤ 8 → Ev (fun k => impl_sums.l5 k x ((fillB (sums2 x) (8 * r + v)).set (8 * r + v) (sm (outAt x (8 * r + v)) m)) (r : Int) (v : Int) (r : Int) (v : Int) (m : Int)) R := by
 have hl := sums2_len x
 refine down 8 ?_ ?_
 ·refine Ev.step (fun k => ?_) hh
  simp only [impl_sums.l5]
  rw [if_neg (by omega), ← sums2_get x (8 * r + v) (by omega), fill_set1 _ hl _ (by omega), wrap_id (by omega) (by omega), cast1]
 ·intro m hm h'
  have b1 := out_bound hx hb (8 * r + v) (by omega) m (by omega)
  have b2 : -M ≤ sg r m * rd x ((8 * m + v : Nat) : Int) ∧ sg r m * rd x ((8 * m + v : Nat) : Int) ≤ M := sgmul_bound _ _ (allB_at hb _ (by omega))
  have b3 : (m : Int) * M ≤ 8 * 1000000000 ∧ 0 ≤ (m : Int) * M := by
   have h0 : 0 ≤ M := by omega
   exact ⟨Int.mul_le_mul (by omega) hM h0 (by omega), Int.mul_nonneg (by omega) h0⟩
  have e : sm (outAt x (8 * r + v)) (m + 1) = sm (outAt x (8 * r + v)) m + sg r m * rd x ((8 * m + v : Nat) : Int) := by
   simp only [sm, outAt]
   rw [show (8 * r + v) % 8 = v by omega, show (8 * r + v) / 8 = r by omega]
  refine Ev.step (f := fun k => (impl_SignOf.f k (r : Int) (m : Int)).bind fun t => impl_sums.l5 k x (((fillB (sums2 x) (8 * r + v)).set (8 * r + v) (sm (outAt x (8 * r + v)) m)).set (8 * r + v) (wrap64 (sm (outAt x (8 * r + v)) m + wrap64 (t * rd x ((8 * m + v : Nat) : Int))))) (r : Int) (v : Int) (r : Int) (v : Int) ((m + 1 : Nat) : Int)) (fun k => ?_) (Ev.bind (sign_ev r m hr hm) ?_)
  ·simp only [impl_sums.l5]
   rw [if_pos (by omega), idx8 r v hr hv, idx8 m v hm hv, if_pos (by omega), if_pos (by rw [List.length_set, fill_len _ hl _ (by omega)]; omega), fill_rd _ hl _ (by omega), wrap_id (x := (m : Int) + 1) (by omega) (by omega), cast1]
   congr 1
   funext t
   rw [if_pos (by omega), if_pos (by omega), Int.toNat_natCast]
  ·rw [List.set_set, wrap_id (x := sg r m * _) (by omega) (by omega), wrap_id (by omega) (by omega), ← e]
   exact h'
theorem sums_l4 (x : List Int) (hx : x.length = 64) (M : Int) (hM : M ≤ 1000000000) (hb : allB (-M) M x = true) (r : Nat) (hr : r < 8) (R : List Int)
  (hh : Ev (fun k => impl_sums.l3 k x (fillB (sums2 x) (8 * (r + 1))) ((r + 1 : Nat) : Int)) R) :
  ∀ v : Nat, v ≤ 8 → Ev (fun k => impl_sums.l4 k x (fillB (sums2 x) (8 * r + v)) (r : Int) (r : Int) (v : Int)) R := by
 refine down 8 ?_ ?_
 ·refine Ev.step (fun k => ?_) hh
  simp only [impl_sums.l4]
  rw [if_neg (by omega), wrap_id (by omega) (by omega), cast1]; rfl
 ·intro v hv h'
  refine Ev.step (fun k => ?_) (sums_l5 x hx M hM hb r v hr hv R h' 0 (by omega))
  simp only [impl_sums.l4]
  rw [if_pos (by omega), sm, fill_set0 _ (sums2_len x) _ (by omega)]; rfl
theorem sums_l3 (x : List Int) (hx : x.length = 64) (M : Int) (hM : M ≤ 1000000000) (hb : allB (-M) M x = true) :
  ∀ r : Nat, r ≤ 8 → Ev (fun k => impl_sums.l3 k x (fillB (sums2 x) (8 * r)) (r : Int)) (sums2 x) := by
 refine down 8 ?_ ?_
 ·refine Ev.step (f := fun _ => some (sums2 x)) (fun k => ?_) (Ev.now _)
  simp only [impl_sums.l3]
  rw [if_neg (by omega), fill_end _ (sums2_len x)]
 ·intro r hr h'
  refine Ev.step (fun k => ?_) (sums_l4 x hx M hM hb r hr _ h' 0 (by omega))
  simp only [impl_sums.l3]
  rw [if_pos (by omega)]; rfl
theorem fill_zero (l : List Int) : fillB l 0 = List.replicate 64 0 := by simp [fillB]
theorem sums_ev (x : List Int) (hx : x.length = 64) (M : Int) (hM : M ≤ 100000000) (hb : allB (-M) M x = true) : Ev (fun k => impl_sums.f k x) (sumsv x) := by
 unfold impl_sums.f
 have h2 := sums_l3 (halfv x) (halfv_len x) (8 * M) (by omega) (halfv_all hx hb) 0 (by omega)
 rw [Nat.mul_zero, fill_zero] at h2
 have h1 := sums_l0 x hx M (by omega) hb _ h2 0 (by omega)
 rw [Nat.mul_zero, fill_zero] at h1
 refine Ev.congr (fun k => ?_) h1
 rw [if_pos (by decide)]; rfl
theorem srow_ev (x : List Int) (hx : x.length = 64) (M : Int) (hM : M ≤ 1000000000) (hb : allB (-M) M x = true) (r v : Nat) (hr : r < 8) (hv : v < 8) : Ev (fun k => spec_l10Row.f k x (r : Int) (v : Int)) (sm (halfAt x (8 * r + v)) 8) := by
 have H : ∀ m : Nat, m ≤ 8 → Ev (fun k => spec_l10Row.l0 k x (r : Int) (v : Int) (sm (halfAt x (8 * r + v)) m) (m : Int)) (sm (halfAt x (8 * r + v)) 8) := by
  refine down 8 ?_ ?_
  ·refine Ev.step (f := fun _ => some (sm (halfAt x (8 * r + v)) 8)) (fun k => ?_) (Ev.now _)
   simp only [spec_l10Row.l0]
   rw [if_neg (by omega)]
  ·intro m hm h'
   have b1 := half_bound hx hb (8 * r + v) (by omega) m (by omega)
   have b2 : -M ≤ sg v m * rd x ((8 * r + m : Nat) : Int) ∧ sg v m * rd x ((8 * r + m : Nat) : Int) ≤ M := sgmul_bound _ _ (allB_at hb _ (by omega))
   have b3 : (m : Int) * M ≤ 8 * 1000000000 ∧ 0 ≤ (m : Int) * M := by
    have h0 : 0 ≤ M := by omega
    exact ⟨Int.mul_le_mul (by omega) hM h0 (by omega), Int.mul_nonneg (by omega) h0⟩
   have e : sm (halfAt x (8 * r + v)) (m + 1) = sm (halfAt x (8 * r + v)) m + sg v m * rd x ((8 * r + m : Nat) : Int) := by
    simp only [sm, halfAt]
    rw [show (8 * r + v) % 8 = v by omega, show (8 * r + v) / 8 = r by omega]
   refine Ev.step (f := fun k => (spec_SignOf.f k (v : Int) (m : Int)).bind fun t => spec_l10Row.l0 k x (r : Int) (v : Int) (wrap64 (sm (halfAt x (8 * r + v)) m + wrap64 (rd x ((8 * r + m : Nat) : Int) * t))) ((m + 1 : Nat) : Int)) (fun k => ?_) (Ev.bind (ssign_ev v m hv hm) ?_)
   ·simp only [spec_l10Row.l0]
    rw [if_pos (by omega), idx8 r m hr hm, if_pos (by omega), if_pos (by omega), wrap_id (x := (m : Int) + 1) (by omega) (by omega), cast1]
   ·rw [Int.mul_comm (rd x _), wrap_id (x := sg v m * _) (by omega) (by omega), wrap_id (by omega) (by omega), ← e]
    exact h'
 exact H 0 (by omega)
theorem ssums_l1 (x : List Int) (hx : x.length = 64) (M : Int) (hM : M ≤ 1000000000) (hb : allB (-M) M x = true) (r : Nat) (hr : r < 8) (R : List Int)
  (hh : Ev (fun k => spec_l10Sums.l0 k x ((halfv x).take (8 * (r + 1))) ((r + 1 : Nat) : Int)) R) :
  ∀ v : Nat, v ≤ 8 → Ev (fun k => spec_l10Sums.l1 k x ((halfv x).take (8 * r + v)) (r : Int) (v : Int)) R := by
 have hl := halfv_len x
 refine down 8 ?_ ?_
 ·refine Ev.step (fun k => ?_) hh
  simp only [spec_l10Sums.l1]
  rw [if_neg (by omega), wrap_id (by omega) (by omega), cast1]; rfl
 ·intro v hv h'
  have hr' := srow_ev x hx M hM hb r v hr hv
  rw [← halfv_get x (8 * r + v) (by omega)] at hr'
  refine Ev.step (f := fun k => (spec_l10Row.f k x (r : Int) (v : Int)).bind fun t => (if ((halfv x).take (8 * r + v)).length < 17592186044416 then (spec_l10Sums.l1 k x ((halfv x).take (8 * r + v) ++ [t]) (r : Int) ((v + 1 : Nat) : Int)) else (none))) (fun k => ?_) (Ev.bind hr' ?_)
  ·simp only [spec_l10Sums.l1]
   rw [if_pos (by omega), wrap_id (x := (v : Int) + 1) (by omega) (by omega), cast1]
  ·refine Ev.congr (fun k => ?_) h'
   rw [if_pos (by simp; omega), ← List.take_succ_eq_append_getElem (by omega)]; rfl
theorem ssums_l0 (x : List Int) (hx : x.length = 64) (M : Int) (hM : M ≤ 1000000000) (hb : allB (-M) M x = true) (R : List Int)
  (hh : Ev (fun k => spec_l10Sums.l2 k (halfv x) [] 0) R) :
  ∀ r : Nat, r ≤ 8 → Ev (fun k => spec_l10Sums.l0 k x ((halfv x).take (8 * r)) (r : Int)) R := by
 have hl := halfv_len x
 refine down 8 ?_ ?_
 ·refine Ev.step (fun k => ?_) hh
  simp only [spec_l10Sums.l0]
  rw [if_neg (by omega), List.take_of_length_le (by omega)]
 ·intro r hr h'
  refine Ev.step (fun k => ?_) (ssums_l1 x hx M hM hb r hr R h' 0 (by omega))
  simp only [spec_l10Sums.l0]
  rw [if_pos (by omega)]; rfl
theorem ssums_l4 (x : List Int) (hx : x.length = 64) (M : Int) (hM : M ≤ 1000000000) (hb : allB (-M) M x = true) (r v : Nat) (hr : r < 8) (hv : v < 8) (R : List Int)
  (hh : Ev (fun k => spec_l10Sums.l3 k x ((sums2 x).take (8 * r + v + 1)) (r : Int) ((v + 1 : Nat) : Int)) R) :
  ∀ m : Nat, m ≤ 8 → Ev (fun k => spec_l10Sums.l4 k x ((sums2 x).take (8 * r + v)) (r : Int) (v : Int) (sm (outAt x (8 * r + v)) m) (m : Int)) R := by
 have hl := sums2_len x
 refine down 8 ?_ ?_
 ·refine Ev.step (fun k => ?_) hh
  simp only [spec_l10Sums.l4]
  rw [if_neg (by omega), if_pos (by simp; omega), ← sums2_get x (8 * r + v) (by omega), ← List.take_succ_eq_append_getElem (by omega), wrap_id (by omega) (by omega), cast1]
 ·intro m hm h'
  have b1 := out_bound hx hb (8 * r + v) (by omega) m (by omega)
  have b2 : -M ≤ sg r m * rd x ((8 * m + v : Nat) : Int) ∧ sg r m * rd x ((8 * m + v : Nat) : Int) ≤ M := sgmul_bound _ _ (allB_at hb _ (by omega))
  have b3 : (m : Int) * M ≤ 8 * 1000000000 ∧ 0 ≤ (m : Int) * M := by
   have h0 : 0 ≤ M := by omega
   exact ⟨Int.mul_le_mul (by omega) hM h0 (by omega), Int.mul_nonneg (by omega) h0⟩
  have e : sm (outAt x (8 * r + v)) (m + 1) = sm (outAt x (8 * r + v)) m + sg r m * rd x ((8 * m + v : Nat) : Int) := by
   simp only [sm, outAt]
   rw [show (8 * r + v) % 8 = v by omega, show (8 * r + v) / 8 = r by omega]
  refine Ev.step (f := fun k => (spec_SignOf.f k (r : Int) (m : Int)).bind fun t => spec_l10Sums.l4 k x ((sums2 x).take (8 * r + v)) (r : Int) (v : Int) (wrap64 (sm (outAt x (8 * r + v)) m + wrap64 (t * rd x ((8 * m + v : Nat) : Int)))) ((m + 1 : Nat) : Int)) (fun k => ?_) (Ev.bind (ssign_ev r m hr hm) ?_)
  ·simp only [spec_l10Sums.l4]
   rw [if_pos (by omega), idx8 m v hm hv, wrap_id (x := (m : Int) + 1) (by omega) (by omega), cast1]
   congr 1
   funext t
   rw [if_pos (by omega), if_pos (by omega)]
  ·rw [wrap_id (x := sg r m * _) (by omega) (by omega), wrap_id (by omega) (by omega), ← e]
   exact h'
theorem ssums_l3 (x : List Int) (hx : x.length = 64) (M : Int) (hM : M ≤ 1000000000) (hb : allB (-M) M x = true) (r : Nat) (hr : r < 8) (R : List Int)
  (hh : Ev (fun k => spec_l10Sums.l2 k x ((sums2 x).take (8 * (r + 1))) ((r + 1 : Nat) : Int)) R) :
  ∀ v : Nat, v ≤ 8 → Ev (fun k => spec_l10Sums.l3 k x ((sums2 x).take (8 * r + v)) (r : Int) (v : Int)) R := by
 refine down 8 ?_ ?_
 ·refine Ev.step (fun k => ?_) hh
  simp only [spec_l10Sums.l3]
  rw [if_neg (by omega), wrap_id (by omega) (by omega), cast1]; rfl
 ·intro v hv h'
  refine Ev.step (fun k => ?_) (ssums_l4 x hx M hM hb r v hr hv R h' 0 (by omega))
  simp only [spec_l10Sums.l3]
  rw [if_pos (by omega)]; rfl
theorem ssums_l2 (x : List Int) (hx : x.length = 64) (M : Int) (hM : M ≤ 1000000000) (hb : allB (-M) M x = true) :
  ∀ r : Nat, r ≤ 8 → Ev (fun k => spec_l10Sums.l2 k x ((sums2 x).take (8 * r)) (r : Int)) (sums2 x) := by
 refine down 8 ?_ ?_
 ·refine Ev.step (f := fun _ => some (sums2 x)) (fun k => ?_) (Ev.now _)
  simp only [spec_l10Sums.l2]
  rw [if_neg (by omega), List.take_of_length_le (by rw [sums2_len]; omega)]
 ·intro r hr h'
  refine Ev.step (fun k => ?_) (ssums_l3 x hx M hM hb r hr _ h' 0 (by omega))
  simp only [spec_l10Sums.l2]
  rw [if_pos (by omega)]; rfl
theorem ssums_ev (x : List Int) (hx : x.length = 64) (M : Int) (hM : M ≤ 100000000) (hb : allB (-M) M x = true) : Ev (fun k => spec_l10Sums.f k x) (sumsv x) := by
 have h2 := ssums_l2 (halfv x) (halfv_len x) (8 * M) (by omega) (halfv_all hx hb) 0 (by omega)
 have h1 := ssums_l0 x hx M (by omega) hb _ h2 0 (by omega)
 exact h1
def EiOk (x : List Int) : Prop := x.length = 64 ∧ allB (-1000) 1000 x = true
instance (x : List Int) : Decidable (EiOk x) := by unfold EiOk; infer_instance
theorem len_dece (l : List Int) (n : Nat) (m : Int) (h : m = (n : Int)) : decide ((l.length : Int) = m) = decide (l.length = n) := by rw [decide_eq_decide]; omega
theorem and_falsee {b : Bool} {p : Prop} [Decidable p] (h : ¬ (p ∧ b = true)) : (decide p && b) = false := by
 rw [Bool.eq_false_iff]; intro h'; rw [Bool.and_eq_true, decide_eq_true_eq] at h'; exact h h'
def EbOk (x : List Int) : Prop := x.length = 64 ∧ allB (-10000000) 10000000 x = true
instance (x : List Int) : Decidable (EbOk x) := by unfold EbOk; infer_instance
def ebv (x : List Int) : List Int := if EbOk x then settledL (sumsv x) else []
theorem ebv_len (x : List Int) : (ebv x).length ≤ 64 := by
 unfold ebv
 by_cases c : EbOk x
 ·rw [if_pos c, settledL_len, sumsv_len]; omega
 ·rw [if_neg c]; simp
theorem sumsv_small {x : List Int} (h : EbOk x) : ∀ v ∈ sumsv x, -1000000000000 ≤ v ∧ v ≤ 1000000000000 := by
 have := allB_iff.1 (sumsv_all h.1 h.2)
 intro v hv
 have h1 := this v hv
 omega
theorem eightback_ev (x : List Int) (hx : x.length ≤ 17592186043904) : Ev (fun k => impl_EightBack.f k x) (ebv x) := by
 unfold impl_EightBack.f ebv
 refine Ev.bind (areIn_ev x 64 (-10000000) 10000000 hx) ?_
 rw [len_dece x 64 64 rfl]
 by_cases c : EbOk x
 ·rw [if_pos c, decide_eq_true c.1, c.2]
  simp only [Bool.and_self, if_true]
  exact Ev.bind (sums_ev x c.1 10000000 (by omega) c.2) (Ev.bind (settled_ev _ (by rw [sumsv_len]; omega) (sumsv_small c)) (Ev.now _))
 ·rw [if_neg c, and_falsee c]
  simp only [Bool.false_eq_true, if_false]; exact Ev.now _
theorem seb_loop (l : List Int) (hl : l.length = 64) (hb : ∀ x ∈ l, -1000000000000 ≤ x ∧ x ≤ 1000000000000) : Ev (fun k => spec_EightBack.l0 k l 0) (settledL l) := by
 have H : ∀ i, i ≤ l.length → Ev (fun k => spec_EightBack.l0 k (setTo l i) (i : Int)) (settledL l) := by
  refine down l.length ?_ ?_
  ·refine Ev.step (f := fun _ => some (settledL l)) (fun k => ?_) (Ev.now _)
   simp only [spec_EightBack.l0]
   rw [if_neg (by omega), setTo_end]
  ·intro i hi h
   have hx := hb l[i] (List.getElem_mem _)
   refine Ev.step (fun k => ?_) h
   simp only [spec_EightBack.l0]
   rw [if_pos (by omega), if_pos (by omega), if_pos (by rw [setTo_len l i (by omega)]; omega), setTo_rd l i hi]
   unfold spec_l09Down.f
   rw [down_eq hx.1 hx.2, Option.bind_some, Int.toNat_natCast, setTo_set l i hi, wrap_id (by omega) (by omega), cast1]
 exact H 0 (by omega)
theorem seightback_ev (x : List Int) (hx : x.length ≤ 17592186043904) : Ev (fun k => spec_EightBack.f k x) (ebv x) := by
 unfold spec_EightBack.f ebv
 refine Ev.bind (all_ev x 64 10000000 hx (by omega) (by omega)) ?_
 rw [len_dece x 64 64 rfl]
 by_cases c : EbOk x
 ·rw [if_pos c, decide_eq_true c.1, c.2]
  simp only [Bool.and_self, if_true]
  exact Ev.bind (ssums_ev x c.1 10000000 (by omega) c.2) (seb_loop _ (sumsv_len x) (sumsv_small c))
 ·rw [if_neg c, and_falsee c]
  simp only [Bool.false_eq_true, if_false]; exact Ev.now _
/-- The kind of a place of sixteen. -/
def kindN (a : Int) : Int := if 0 ≤ a ∧ a ≤ 15 then (if a / 4 % 2 = 0 ∧ a % 4 % 2 = 0 then 0 else if a / 4 % 2 = 1 ∧ a % 4 % 2 = 1 then 1 else 2) else -1
theorem kindN_in {a : Int} (h : 0 ≤ a ∧ a ≤ 15) : 0 ≤ kindN a ∧ kindN a < 3 := by
 unfold kindN
 rw [if_pos h]
 by_cases c1 : a / 4 % 2 = 0 ∧ a % 4 % 2 = 0
 ·rw [if_pos c1]; omega
 ·rw [if_neg c1]
  by_cases c2 : a / 4 % 2 = 1 ∧ a % 4 % 2 = 1
  ·rw [if_pos c2]; omega
  ·rw [if_neg c2]; omega
theorem kind_parts {a : Int} (h : 0 ≤ a ∧ a ≤ 15) : Int.tmod (wrap64 (Int.tdiv a 4)) 2 = a / 4 % 2 ∧ Int.tmod (Int.tmod a 4) 2 = a % 4 % 2 := by
 rw [Int.tdiv_eq_ediv_of_nonneg h.1, wrap_id (by omega) (by omega), Int.tmod_eq_emod_of_nonneg (a := a / 4) (by omega), Int.tmod_eq_emod_of_nonneg (a := a) h.1, Int.tmod_eq_emod_of_nonneg (a := a % 4) (by omega)]
 exact ⟨rfl, rfl⟩
theorem kind_ev (a : Int) : Ev (fun k => impl_KindOf.f k a) (kindN a) := by
 unfold impl_KindOf.f kindN
 simp only [within_eq, Option.bind_some]
 by_cases h : 0 ≤ a ∧ a ≤ 15
 ·obtain ⟨e1, e2⟩ := kind_parts h
  simp only [decide_eq_true h, if_true, h, and_self, e1, e2]
  have hr : a / 4 % 2 = 0 ∨ a / 4 % 2 = 1 := by omega
  have hc : a % 4 % 2 = 0 ∨ a % 4 % 2 = 1 := by omega
  generalize a / 4 % 2 = x at hr
  generalize a % 4 % 2 = y at hc
  rcases hr with rfl | rfl <;> rcases hc with rfl | rfl <;> exact Ev.step (fun k => by simp only [impl_KindOf.j0]; rfl) (Ev.now _)
 ·simp only [decide_eq_false h, h, if_false, Bool.false_eq_true]
  exact Ev.now _
theorem skind_ev (a : Int) : Ev (fun k => spec_KindOf.f k a) (kindN a) := by
 unfold spec_KindOf.f kindN
 simp only [in_eq, Option.bind_some]
 by_cases h : 0 ≤ a ∧ a ≤ 15
 ·obtain ⟨e1, e2⟩ := kind_parts h
  simp only [decide_eq_true h, if_true, h, and_self, e1, e2]
  have hr : a / 4 % 2 = 0 ∨ a / 4 % 2 = 1 := by omega
  have hc : a % 4 % 2 = 0 ∨ a % 4 % 2 = 1 := by omega
  generalize a / 4 % 2 = x at hr
  generalize a % 4 % 2 = y at hc
  rcases hr with rfl | rfl <;> rcases hc with rfl | rfl <;> exact Ev.step (fun k => by simp only [spec_KindOf.j0]; rfl) (Ev.now _)
 ·simp only [decide_eq_false h, h, if_false, Bool.false_eq_true]
  exact Ev.now _
theorem pow_le_nat {a b : Nat} (h : a ≤ b) : (2 : Int) ^ a ≤ 2 ^ b := by
 have := Nat.pow_le_pow_right (show 0 < 2 by omega) h
 exact_mod_cast this
theorem pow_ge1 (a : Nat) : (1 : Int) ≤ 2 ^ a := Int.pow_pos (by omega)
theorem shl_val {x e : Int} (hx : 0 ≤ x ∧ x ≤ 30000) (he : 0 ≤ e ∧ e ≤ 25) : shl .i64 x e = x * 2 ^ e.toNat := by
 unfold shl
 have hm : min e.toNat IntKind.i64.bits = e.toNat := Nat.min_eq_left (by show e.toNat ≤ 64; omega)
 rw [hm, i64_w]
 have hp := pow_le_nat (a := e.toNat) (b := 25) (by omega)
 have h1 := pow_ge1 e.toNat
 have hb : x * 2 ^ e.toNat ≤ 30000 * 2 ^ 25 := Int.mul_le_mul hx.2 hp (by omega) (by omega)
 have h0 : 0 ≤ x * 2 ^ e.toNat := Int.mul_nonneg hx.1 (by omega)
 rw [wrap_id (by omega) (by omega)]
def scaleN (q p : Int) : Int := if (0 ≤ q ∧ q ≤ 40) ∧ 0 ≤ p ∧ p ≤ 15 then scaleT (q % 6) (kindN p) * 2 ^ (q / 6).toNat else 0
theorem scaleT_in (q k : Int) : 10 ≤ scaleT q k ∧ scaleT q k ≤ 29 := by
 unfold scaleT
 repeat' split
 all_goals omega
theorem scale_ev (q p : Int) : Ev (fun k => impl_ScaleOf.f k q p) (scaleN q p) := by
 unfold impl_ScaleOf.f scaleN
 simp only [within_eq, Option.bind_some]
 by_cases h1 : 0 ≤ q ∧ q ≤ 40
 ·by_cases h2 : 0 ≤ p ∧ p ≤ 15
  ·simp only [if_true, h1, h2, and_self, decide_true]
   refine Ev.bind (kind_ev p) ?_
   have hs := scaleT_in (q % 6) (kindN p)
   have e : wrap64 (Int.tdiv q 6) = q / 6 := by rw [Int.tdiv_eq_ediv_of_nonneg h1.1, wrap_id (by omega) (by omega)]
   rw [if_pos (kindN_in h2), Int.tmod_eq_emod_of_nonneg h1.1, e, shl_val (by omega) (by omega)]
   exact Ev.now _
  ·simp only [h1, and_self, decide_true, decide_eq_false h2, if_true, h2, and_false, if_false, Bool.false_eq_true]
   exact Ev.now _
 ·simp only [decide_eq_false h1, if_false, h1, false_and, Bool.false_eq_true]
  exact Ev.now _
theorem spick_val (n a b c : Int) : spec_l08Pick.f n a b c = some (if n = 0 then a else if n = 1 then b else c) := by
 unfold spec_l08Pick.f
 by_cases c0 : n = 0
 ·rw [if_pos c0, if_pos c0]
 ·rw [if_neg c0, if_neg c0]
  by_cases c1 : n = 1
  ·rw [if_pos c1, if_pos c1]
  ·rw [if_neg c1, if_neg c1]
theorem sscale_loop (q : Int) (hq : 0 ≤ q ∧ q ≤ 40) (d : Nat) : ∀ i b : Int, 0 ≤ i → i + (d : Int) = q / 6 → 0 ≤ b → b * 2 ^ d ≤ 1000000 → Ev (fun k => spec_ScaleOf.l0 k q b i) (b * 2 ^ d) := by
 have e : wrap64 (Int.tdiv q 6) = q / 6 := by rw [Int.tdiv_eq_ediv_of_nonneg hq.1, wrap_id (by omega) (by omega)]
 induction d with
 | zero =>
  intro i b hz hi h0 h1
  rw [Int.pow_zero, Int.mul_one]
  refine Ev.step (f := fun _ => some b) (fun k => ?_) (Ev.now _)
  simp only [spec_ScaleOf.l0]
  rw [e, if_neg (by omega)]
 | succ d ih =>
  intro i b hz hi h0 h1
  have e2 : b * 2 ^ (d + 1) = (2 * b) * 2 ^ d := by rw [Int.pow_succ, Int.mul_comm (2 ^ d) 2, ← Int.mul_assoc, Int.mul_comm b 2]
  rw [e2] at h1 ⊢
  have hp := pow_ge1 d
  have hb : (2 * b) * 1 ≤ (2 * b) * 2 ^ d := Int.mul_le_mul_of_nonneg_left hp (by omega)
  refine Ev.step (fun k => ?_) (ih (i + 1) (2 * b) (by omega) (by omega) (by omega) h1)
  simp only [spec_ScaleOf.l0]
  rw [e, if_pos (by omega), wrap_id (x := 2 * b) (by omega) (by omega), wrap_id (x := i + 1) (by omega) (by omega)]
theorem sscale_ev (q p : Int) : Ev (fun k => spec_ScaleOf.f k q p) (scaleN q p) := by
 unfold spec_ScaleOf.f scaleN
 refine Ev.bind (skind_ev p) ?_
 simp only [in_eq, Option.bind_some]
 have hbad : ∀ x y : Int, Ev (fun k => spec_ScaleOf.j0 k x y true) 0 := fun x y => Ev.step (f := fun _ => some 0) (fun k => by simp only [spec_ScaleOf.j0]; rfl) (Ev.now _)
 by_cases h1 : 0 ≤ q ∧ q ≤ 40
 ·by_cases h2 : 0 ≤ p ∧ p ≤ 15
  ·have hk := kindN_in h2
   have hd : decide (kindN p < 0) = false := decide_eq_false (by omega)
   simp only [if_true, h1, h2, and_self, decide_true, hd]
   have hs := scaleT_in (q % 6) (kindN p)
   have hp := pow_le_nat (a := (q / 6).toNat) (b := 6) (by omega)
   have hp1 := pow_ge1 (q / 6).toNat
   have hm : scaleT (q % 6) (kindN p) * 2 ^ (q / 6).toNat ≤ 29 * 2 ^ 6 := Int.mul_le_mul hs.2 hp (by omega) (by omega)
   have hl := sscale_loop q h1 (q / 6).toNat 0 (scaleT (q % 6) (kindN p)) (by omega) (by omega) (by omega) (by omega)
   have hj : Ev (fun k => spec_ScaleOf.j1 k q (scaleT (q % 6) (kindN p))) (scaleT (q % 6) (kindN p) * 2 ^ (q / 6).toNat) := Ev.step (fun k => by simp only [spec_ScaleOf.j1]) hl
   refine Ev.step (fun k => ?_) hj
   simp only [spec_ScaleOf.j0, Bool.false_eq_true, if_false, spick_val, Option.bind_some, Int.tmod_eq_emod_of_nonneg h1.1]
   have hq6 : q % 6 = 0 ∨ q % 6 = 1 ∨ q % 6 = 2 ∨ q % 6 = 3 ∨ q % 6 = 4 ∨ q % 6 = 5 := by omega
   unfold scaleT
   generalize q % 6 = m at hq6
   rcases hq6 with rfl | rfl | rfl | rfl | rfl | rfl <;> rfl
  ·have hk : kindN p < 0 := by unfold kindN; rw [if_neg h2]; omega
   simp only [h1, and_self, decide_true, if_true, h2, and_false, if_false, decide_eq_true hk]
   exact hbad _ _
 ·simp only [decide_eq_false h1, if_false, h1, false_and, Bool.false_eq_true]
  exact hbad _ _
def stepT (m : Int) : Int := if m = 0 then 10 else if m = 1 then 11 else if m = 2 then 13 else if m = 3 then 14 else if m = 4 then 16 else 18
def stepN (q : Int) : Int := if 0 ≤ q ∧ q ≤ 40 then stepT (q % 6) * 2 ^ (q / 6).toNat else 0
theorem stepT_in (m : Int) : 10 ≤ stepT m ∧ stepT m ≤ 18 := by
 unfold stepT
 repeat' split
 all_goals omega
theorem step_val (q : Int) : impl_StepOf.f q = some (stepN q) := by
 unfold impl_StepOf.f stepN
 simp only [within_eq, Option.bind_some]
 by_cases h : 0 ≤ q ∧ q ≤ 40
 ·have e : wrap64 (Int.tdiv q 6) = q / 6 := by rw [Int.tdiv_eq_ediv_of_nonneg h.1, wrap_id (by omega) (by omega)]
  have g1 : (0 : Int) ≤ q % 6 := by omega
  have g2 : q % 6 < (([10, 11, 13, 14, 16, 18] : List Int).length : Int) := by simp only [List.length_cons, List.length_nil]; omega
  have g3 : (0 : Int) ≤ q / 6 := by omega
  have hr : rd [10, 11, 13, 14, 16, 18] (q % 6) = stepT (q % 6) := by
   have hq : q % 6 = 0 ∨ q % 6 = 1 ∨ q % 6 = 2 ∨ q % 6 = 3 ∨ q % 6 = 4 ∨ q % 6 = 5 := by omega
   generalize q % 6 = m at hq
   rcases hq with rfl | rfl | rfl | rfl | rfl | rfl <;> rfl
  have hs := stepT_in (q % 6)
  simp only [h, and_self, decide_true, if_true, e, Int.tmod_eq_emod_of_nonneg h.1, g1, g2, g3, hr]
  rw [shl_val (by omega) (by omega)]
 ·simp only [h, decide_false, if_false, Bool.false_eq_true]
theorem condB_in {q : Int} {c d : Bool} (h : condB q c d = true) : 0 ≤ q ∧ q ≤ 40 := by
 unfold condB at h
 exact of_decide_eq_true (Bool.and_eq_true _ _ ▸ h).1
theorem sstep_fin : ∀ q : Fin 41, spec_StepOf.f 80 (q.val : Int) = some (stepN (q.val : Int)) := by decide +kernel
theorem sstep_ev {q : Int} (h : 0 ≤ q ∧ q ≤ 40) : Ev (fun k => spec_StepOf.f k q) (stepN q) := by
 have e : ((⟨q.toNat, by omega⟩ : Fin 41).val : Int) = q := Int.toNat_of_nonneg h.1
 have f := sstep_fin ⟨q.toNat, by omega⟩
 rw [e] at f
 exact Ev.of (fun n => spec_StepOf.mono _ _) f
def largeB (x q : Int) : Int := if -5000 ≤ x ∧ x ≤ 5000 then wrap64 (x * stepN q) else 0
def smallB (x q p : Int) : Int := if -5000 ≤ x ∧ x ≤ 5000 then wrap64 (x * scaleN q p) else 0
theorem mul_in {x s a b : Int} (hx : -a ≤ x ∧ x ≤ a) (hs : 0 ≤ s ∧ s ≤ b) (ha : 0 ≤ a) : -(a * b) ≤ x * s ∧ x * s ≤ a * b := by
 have h1 : x * s ≤ a * s := Int.mul_le_mul_of_nonneg_right hx.2 hs.1
 have h2 : a * s ≤ a * b := Int.mul_le_mul_of_nonneg_left hs.2 ha
 have h3 : -a * s ≤ x * s := Int.mul_le_mul_of_nonneg_right hx.1 hs.1
 rw [Int.neg_mul] at h3
 omega
theorem scaleN_in {q : Int} (hq : 0 ≤ q ∧ q ≤ 40) (p : Int) : 0 ≤ scaleN q p ∧ scaleN q p ≤ 1856 := by
 unfold scaleN
 split
 ·have h := scaleT_in (q % 6) (kindN p)
  have e : (q / 6).toNat ≤ 6 := by omega
  have h2 : (1 : Int) ≤ 2 ^ (q / 6).toNat ∧ (2 : Int) ^ (q / 6).toNat ≤ 64 := by
   generalize (q / 6).toNat = n at e
   have : n = 0 ∨ n = 1 ∨ n = 2 ∨ n = 3 ∨ n = 4 ∨ n = 5 ∨ n = 6 := by omega
   rcases this with rfl | rfl | rfl | rfl | rfl | rfl | rfl <;> decide
  have h3 := mul_in (x := scaleT (q % 6) (kindN p)) (s := 2 ^ (q / 6).toNat) (a := 29) (b := 64) (by omega) (by omega) (by omega)
  have h4 : 0 ≤ scaleT (q % 6) (kindN p) * 2 ^ (q / 6).toNat := Int.mul_nonneg (by omega) (by omega)
  omega
 ·omega
theorem smallB_in {q : Int} (hq : 0 ≤ q ∧ q ≤ 40) (x p : Int) : -10000000 ≤ smallB x q p ∧ smallB x q p ≤ 10000000 := by
 unfold smallB
 split
 ·rename_i hx
  have h := mul_in (x := x) (s := scaleN q p) (a := 5000) (b := 1856) (by omega) (scaleN_in hq p) (by omega)
  rw [wrap_id (by omega) (by omega)]
  omega
 ·omega
theorem smallB_ok (l : List Int) (hl : l.length = 16) {q : Int} (hq : 0 ≤ q ∧ q ≤ 40) : FbOk (l.mapIdx (fun i x => smallB x q (i : Int))) := by
 refine ⟨by rw [List.length_mapIdx, hl], allB_iff.2 (fun v hv => ?_)⟩
 obtain ⟨i, hi, rfl⟩ := List.getElem_of_mem hv
 rw [List.getElem_mapIdx]
 exact smallB_in hq _ _
theorem fbv_len16 {m : List Int} (h : FbOk m) : (fbv m).length = 16 := by rw [fbv, if_pos h, settledL_len, turnedL_len, h.1]
def scat (out : List Int) (kk : Nat) (v : List Int) : Nat → List Int
 | 0 => out
 | i + 1 => (scat out kk v i).set (atq kk i) (rd v (i : Int))
theorem scat_len (out : List Int) (kk : Nat) (v : List Int) : ∀ i, (scat out kk v i).length = out.length
 | 0 => rfl
 | i + 1 => by rw [scat, List.length_set, scat_len out kk v i]
def slc (l : List Int) (kk : Nat) : List Int := (l.take (16 * kk + 16)).drop (16 * kk)
theorem slc_len (l : List Int) (hl : l.length = 64) (kk : Nat) (hk : kk < 4) : (slc l kk).length = 16 := by
 unfold slc
 rw [List.length_drop, List.length_take]
 omega
def outb (l : List Int) (q : Int) : Nat → List Int
 | 0 => List.replicate 64 0
 | kk + 1 => scat (outb l q kk) kk (fbv ((unscv 4 (slc l kk)).mapIdx (fun i x => smallB x q (i : Int)))) 16
theorem outb_len (l : List Int) (q : Int) : ∀ k, (outb l q k).length = 64
 | 0 => by simp [outb]
 | k + 1 => by rw [outb, scat_len, outb_len l q k]
def lbN (l : List Int) (q : Int) (c d : Bool) : List Int × Bool :=
 if (l.length = 64 ∧ allB (-5000) 5000 l = true) ∧ condB q c d = true then (if d = true then (unscv 8 l, true) else (if c = true then (ebv ((unscv 8 l).map (largeB · q)), true) else (outb l q 4, true))) else ([], false)
theorem lbN_len (l : List Int) (q : Int) (c d : Bool) : (lbN l q c d).1.length ≤ 64 := by
 unfold lbN
 split
 ·rename_i h
  split
  ·exact Nat.le_of_eq (by show (unscv 8 l).length = 64; rw [unscv_len, h.1.1])
  ·split
   ·exact ebv_len _
   ·have h4 := outb_len l q 4
    generalize outb l q 4 = o at h4 ⊢
    exact Nat.le_of_eq h4
 ·exact Nat.zero_le _
theorem Ev.of_some {α : Type} {x : Option α} {v : α} (h : x = some v) : Ev (fun _ => x) v := by rw [h]; exact Ev.now _
theorem largeback_val {q : Int} (hq : 0 ≤ q ∧ q ≤ 40) (x : Int) : impl_LargeBack.f x q = some (largeB x q) := by
 unfold impl_LargeBack.f largeB
 rw [within_eq, Option.bind_some]
 by_cases c : -5000 ≤ x ∧ x ≤ 5000
 ·rw [if_pos (decide_eq_true c), if_pos c, step_val, Option.bind_some]
 ·rw [if_neg (by simpa using c), if_neg c]
theorem slargeback_ev {q : Int} (hq : 0 ≤ q ∧ q ≤ 40) (x : Int) : Ev (fun k => spec_LargeBack.f k x q) (largeB x q) := by
 unfold spec_LargeBack.f largeB
 simp only [in_eq, Option.bind_some]
 by_cases c : -5000 ≤ x ∧ x ≤ 5000
 ·rw [if_pos c]
  simp only [decide_eq_true c, if_true]
  exact Ev.bind (sstep_ev hq) (Ev.now _)
 ·rw [if_neg c]
  simp only [decide_eq_false c, Bool.false_eq_true, if_false]
  exact Ev.now _
theorem smallback_ev (x q p : Int) : Ev (fun k => impl_SmallBack.f k x q p) (smallB x q p) := by
 unfold impl_SmallBack.f smallB
 simp only [within_eq, Option.bind_some]
 by_cases c : -5000 ≤ x ∧ x ≤ 5000
 ·rw [if_pos c]
  simp only [decide_eq_true c, if_true]
  exact Ev.bind (scale_ev q p) (Ev.now _)
 ·rw [if_neg c]
  simp only [decide_eq_false c, Bool.false_eq_true, if_false]
  exact Ev.now _
theorem ssmallback_ev (x q p : Int) : Ev (fun k => spec_SmallBack.f k x q p) (smallB x q p) := by
 unfold spec_SmallBack.f smallB
 simp only [in_eq, Option.bind_some]
 by_cases c : -5000 ≤ x ∧ x ≤ 5000
 ·rw [if_pos c]
  simp only [decide_eq_true c, if_true]
  exact Ev.bind (sscale_ev q p) (Ev.now _)
 ·rw [if_neg c]
  simp only [decide_eq_false c, Bool.false_eq_true, if_false]
  exact Ev.now _
theorem back_large (l : List Int) (hl : l.length = 64) (a : Bool) (q : Int) (hq : 0 ≤ q ∧ q ≤ 40) (c d : Bool) : Ev (fun k => impl_LevelsBack.l0 k l 64 0 a q c d) (ebv (l.map (largeB · q)), true) := by
 obtain ⟨m, hm⟩ : ∃ m, m = l.map (largeB · q) := ⟨_, rfl⟩
 have lm : m.length = 64 := by rw [hm, List.length_map, hl]
 rw [← hm]
 have H : ∀ i, i ≤ 64 → Ev (fun k => impl_LevelsBack.l0 k (m.take i ++ l.drop i) 64 (i : Int) a q c d) (ebv m, true) := by
  refine down 64 ?_ ?_
  ·have e : m.take 64 ++ l.drop 64 = m := by rw [List.take_of_length_le (by omega), List.drop_eq_nil_of_le (by omega), List.append_nil]
   refine Ev.step (f := fun k => (impl_EightBack.f k m).bind fun t => (some (t, true))) (fun k => ?_) (Ev.bind (eightback_ev m (by omega)) (Ev.now _))
   simp only [impl_LevelsBack.l0]
   rw [if_neg (by omega), e]
  ·intro i hi h
   have hr := mix_rd m l i (by omega) (by omega)
   have hlen := mix_length m l i (by omega) (by omega)
   have hset := mix_set m l i (by omega) (by omega)
   have hv : m[i]'(by omega) = largeB (l[i]'(by omega)) q := by simp [hm]
   rw [hv] at hset
   refine Ev.step (f := fun k => (impl_LargeBack.f (l[i]'(by omega)) q).bind fun t => impl_LevelsBack.l0 k ((m.take i ++ l.drop i).set i t) 64 ((i : Int) + 1) a q c d) (fun k => ?_) (Ev.bind (Ev.of_some (largeback_val hq _)) ?_)
   ·simp only [impl_LevelsBack.l0]
    rw [if_pos (by omega), if_pos (by omega), if_pos (by rw [hlen]; omega), hr, Int.toNat_natCast, wrap_id (x := (i : Int) + 1) (by omega) (by omega)]
   ·rw [hset]
    exact h
 have h0 := H 0 (by omega)
 exact h0
theorem back_scat (x0 out v : List Int) (kk : Nat) (hk : kk < 4) (ho : out.length = 64) (hv : v.length = 16) (a : Bool) (q : Int) (c d : Bool) (R : List Int × Bool)
  (h : Ev (fun k => impl_LevelsBack.l1 k x0 (scat out kk v 16) ((kk + 1 : Nat) : Int) a q c d) R) : Ev (fun k => impl_LevelsBack.l3 k x0 out v (kk : Int) (qL kk) 16 0 a q c d) R := by
 have H : ∀ i, i ≤ 16 → Ev (fun k => impl_LevelsBack.l3 k x0 (scat out kk v i) v (kk : Int) (qL kk) 16 (i : Int) a q c d) R := by
  refine down 16 ?_ ?_
  ·refine Ev.step (fun k => ?_) h
   simp only [impl_LevelsBack.l3]
   rw [if_neg (by omega), wrap_id (x := (kk : Int) + 1) (by omega) (by omega), cast1]
  ·intro i hi h1
   have hq := qL_rd kk i hi
   have hat := atq_lt kk i hk hi
   refine Ev.step (fun k => ?_) h1
   simp only [impl_LevelsBack.l3]
   rw [if_pos (by omega), if_pos (by omega), if_pos (by rw [qL_len]; omega), if_pos (by omega), hq, if_pos (by omega), if_pos (by rw [scat_len, ho]; omega), Int.toNat_natCast, wrap_id (x := (i : Int) + 1) (by omega) (by omega), cast1]
   rfl
 exact H 0 (by omega)
theorem back_small (x0 out : List Int) (kk : Nat) (hk : kk < 4) (ho : out.length = 64) (l : List Int) (hl : l.length = 16) (a : Bool) (q : Int) (hq : 0 ≤ q ∧ q ≤ 40) (c d : Bool) (R : List Int × Bool)
  (h : Ev (fun k => impl_LevelsBack.l1 k x0 (scat out kk (fbv (l.mapIdx (fun i x => smallB x q (i : Int)))) 16) ((kk + 1 : Nat) : Int) a q c d) R) : Ev (fun k => impl_LevelsBack.l2 k x0 out (kk : Int) l (kk : Int) 16 0 a q c d) R := by
 have hok := smallB_ok l hl hq
 obtain ⟨m, hm⟩ : ∃ m, m = l.mapIdx (fun i x => smallB x q (i : Int)) := ⟨_, rfl⟩
 have lm : m.length = 16 := by rw [hm, List.length_mapIdx, hl]
 rw [← hm] at h hok
 have H : ∀ i, i ≤ 16 → Ev (fun k => impl_LevelsBack.l2 k x0 out (kk : Int) (m.take i ++ l.drop i) (kk : Int) 16 (i : Int) a q c d) R := by
  refine down 16 ?_ ?_
  ·have e : m.take 16 ++ l.drop 16 = m := by rw [List.take_of_length_le (by omega), List.drop_eq_nil_of_le (by omega), List.append_nil]
   have hF : ((fbv m).length : Nat) = 16 := fbv_len16 hok
   refine Ev.step (f := fun k => (impl_FourBack.f k m).bind fun t => ((impl_quarter.f k (kk : Int)).bind fun u => (impl_LevelsBack.l3 k x0 out t (kk : Int) u (u.length : Int) 0 a q c d))) (fun k => ?_) (Ev.bind (fourback_ev m (by omega)) (Ev.bind (quarter_ev kk hk) ?_))
   ·simp only [impl_LevelsBack.l2]
    rw [if_neg (by omega), e]
   ·rw [qL_len]
    exact back_scat x0 out (fbv m) kk hk ho hF a q c d R h
  ·intro i hi h1
   have hr := mix_rd m l i (by omega) (by omega)
   have hlen := mix_length m l i (by omega) (by omega)
   have hset := mix_set m l i (by omega) (by omega)
   have hv : m[i]'(by omega) = smallB (l[i]'(by omega)) q (i : Int) := by simp [hm]
   rw [hv] at hset
   refine Ev.step (f := fun k => (impl_SmallBack.f k (l[i]'(by omega)) q (i : Int)).bind fun t => impl_LevelsBack.l2 k x0 out (kk : Int) ((m.take i ++ l.drop i).set i t) (kk : Int) 16 ((i : Int) + 1) a q c d) (fun k => ?_) (Ev.bind (smallback_ev _ q _) ?_)
   ·simp only [impl_LevelsBack.l2]
    rw [if_pos (by omega), if_pos (by omega), if_pos (by rw [hlen]; omega), hr, Int.toNat_natCast, wrap_id (x := (i : Int) + 1) (by omega) (by omega)]
   ·rw [hset]
    exact h1
 have h0 := H 0 (by omega)
 exact h0
theorem back_rounds (l : List Int) (hl : l.length = 64) (a : Bool) (q : Int) (hq : 0 ≤ q ∧ q ≤ 40) (c d : Bool) : Ev (fun k => impl_LevelsBack.l1 k l (List.replicate 64 0) 0 a q c d) (outb l q 4, true) := by
 have H : ∀ kk, kk ≤ 4 → Ev (fun k => impl_LevelsBack.l1 k l (outb l q kk) (kk : Int) a q c d) (outb l q 4, true) := by
  refine down 4 ?_ ?_
  ·exact Ev.step (f := fun _ => some (outb l q 4, true)) (fun k => by simp only [impl_LevelsBack.l1]; rw [if_neg (by omega)]) (Ev.now _)
  ·intro kk hk h
   have lz := slc_len l hl kk hk
   have h3 := back_small l (outb l q kk) kk hk (outb_len l q kk) (unscv 4 (slc l kk)) (by rw [unscv_len, lz]) a q hq c d _ h
   have hs := unscanned_ev 4 (slc l kk)
   rw [if_pos (show ScOk 4 (slc l kk) from Or.inl ⟨rfl, lz⟩)] at hs
   have e1 : wrap64 (16 * (kk : Int)) = ((16 * kk : Nat) : Int) := by rw [wrap_id (by omega) (by omega)]; omega
   have e2 : wrap64 (((16 * kk : Nat) : Int) + 16) = ((16 * kk + 16 : Nat) : Int) := by rw [wrap_id (by omega) (by omega)]; omega
   refine Ev.step (f := fun k => (impl_Unscanned.f k 4 (slc l kk)).bind fun bt => (impl_LevelsBack.l2 k l (outb l q kk) (kk : Int) bt.1 (kk : Int) (bt.1.length : Int) 0 a q c d)) (fun k => ?_) (Ev.bind hs ?_)
   ·simp only [impl_LevelsBack.l1, e1, e2]
    rw [if_pos (by omega), if_pos (by omega), if_pos (by omega), if_pos (by omega), Int.toNat_natCast, Int.toNat_natCast]
    rfl
   ·rw [show ((unscv 4 (slc l kk)).length : Int) = 16 from by rw [unscv_len, lz]; rfl]
    exact h3
 exact H 0 (by omega)
theorem levelsback_ev (l : List Int) (hl : l.length ≤ 17592186043904) (a : Bool) (q : Int) (c d : Bool) : Ev (fun k => impl_LevelsBack.f k l a q c d) (lbN l q c d) := by
 have hbad : Ev (fun k => impl_LevelsBack.j0 k l true a q c d) ([], false) := Ev.step (f := fun _ => some ([], false)) (fun k => by simp only [impl_LevelsBack.j0]; rfl) (Ev.now _)
 unfold impl_LevelsBack.f lbN
 have hA : Ev (fun k => impl_areLevels.f k l) (decide ((l.length : Int) = 64) && allB (-5000) 5000 l) := by
  unfold impl_areLevels.f
  exact Ev.bind (areIn_ev l 64 (-5000) 5000 hl) (Ev.now _)
 refine Ev.bind hA ?_
 rw [len_dec4 l 64 64 rfl]
 by_cases h0 : l.length = 64 ∧ allB (-5000) 5000 l = true
 ·rw [decide_eq_true h0.1, h0.2]
  simp only [Bool.and_self, if_true, cond_val, Option.bind_some]
  cases hc : condB q c d with
  | false =>
   rw [if_neg (fun h => by cases h.2)]
   exact hbad
  | true =>
   rw [if_pos ⟨⟨h0.1, trivial⟩, rfl⟩]
   have hq := condB_in hc
   have hs := unscanned_ev 8 l
   rw [if_pos (show ScOk 8 l from Or.inr ⟨rfl, h0.1⟩)] at hs
   cases d with
   | true =>
    refine Ev.step (fun k => by simp only [impl_LevelsBack.j0, Bool.and_self, Bool.not_true, Bool.false_eq_true, if_false, if_true]; rfl) (Ev.bind hs ?_)
    simp only [if_true]; exact Ev.now _
   | false =>
    cases c with
    | true =>
     have hu : (unscv 8 l).length = 64 := by rw [unscv_len, h0.1]
     refine Ev.step (fun k => by simp only [impl_LevelsBack.j0, Bool.and_self, Bool.not_true, Bool.false_eq_true, if_false, if_true]; rfl) (Ev.bind hs ?_)
     rw [show ((unscv 8 l).length : Int) = 64 from by rw [hu]; rfl]
     exact back_large _ hu a q hq true false
    | false =>
     have g : (64 : Nat) ≤ 35184372088832 := by omega
     refine Ev.step (fun k => by simp only [impl_LevelsBack.j0, Bool.and_self, Bool.not_true, Bool.false_eq_true, if_false, g, if_true]) (back_rounds l h0.1 a q hq false false)
 ·rw [and_false4 h0, if_neg (fun h => h0 h.1)]
  simp only [Bool.false_eq_true, if_false]
  exact hbad
theorem sback_large (l : List Int) (hl : l.length = 64) (a : Bool) (q : Int) (hq : 0 ≤ q ∧ q ≤ 40) (c d : Bool) : Ev (fun k => spec_LevelsBack.l0 k l 0 a q c d) (ebv (l.map (largeB · q)), true) := by
 obtain ⟨m, hm⟩ : ∃ m, m = l.map (largeB · q) := ⟨_, rfl⟩
 have lm : m.length = 64 := by rw [hm, List.length_map, hl]
 rw [← hm]
 have H : ∀ i, i ≤ 64 → Ev (fun k => spec_LevelsBack.l0 k (m.take i ++ l.drop i) (i : Int) a q c d) (ebv m, true) := by
  refine down 64 ?_ ?_
  ·have e : m.take 64 ++ l.drop 64 = m := by rw [List.take_of_length_le (by omega), List.drop_eq_nil_of_le (by omega), List.append_nil]
   refine Ev.step (f := fun k => (spec_EightBack.f k m).bind fun t => (some (t, true))) (fun k => ?_) (Ev.bind (seightback_ev m (by omega)) (Ev.now _))
   simp only [spec_LevelsBack.l0]
   rw [if_neg (by omega), e]
  ·intro i hi h
   have hr := mix_rd m l i (by omega) (by omega)
   have hlen := mix_length m l i (by omega) (by omega)
   have hset := mix_set m l i (by omega) (by omega)
   have hv : m[i]'(by omega) = largeB (l[i]'(by omega)) q := by simp [hm]
   rw [hv] at hset
   refine Ev.step (f := fun k => (spec_LargeBack.f k (l[i]'(by omega)) q).bind fun t => spec_LevelsBack.l0 k ((m.take i ++ l.drop i).set i t) ((i : Int) + 1) a q c d) (fun k => ?_) (Ev.bind (slargeback_ev hq _) ?_)
   ·simp only [spec_LevelsBack.l0]
    rw [if_pos (by omega), if_pos (by omega), if_pos (by rw [hlen]; omega), hr, Int.toNat_natCast, wrap_id (x := (i : Int) + 1) (by omega) (by omega)]
   ·rw [hset]
    exact h
 have h0 := H 0 (by omega)
 exact h0
theorem sback_scat (x0 out v : List Int) (kk : Nat) (hk : kk < 4) (ho : out.length = 64) (hv : v.length = 16) (a : Bool) (q : Int) (c d : Bool) (R : List Int × Bool)
  (h : Ev (fun k => spec_LevelsBack.l1 k x0 (scat out kk v 16) ((kk + 1 : Nat) : Int) a q c d) R) : Ev (fun k => spec_LevelsBack.l3 k x0 out (kk : Int) v 0 a q c d) R := by
 have H : ∀ i, i ≤ 16 → Ev (fun k => spec_LevelsBack.l3 k x0 (scat out kk v i) (kk : Int) v (i : Int) a q c d) R := by
  refine down 16 ?_ ?_
  ·refine Ev.step (fun k => ?_) h
   simp only [spec_LevelsBack.l3]
   rw [if_neg (by omega), wrap_id (x := (kk : Int) + 1) (by omega) (by omega), cast1]
  ·intro i hi h1
   have hat := atq_lt kk i hk hi
   have ha := atq_fin ⟨kk, hk⟩ ⟨i, hi⟩
   refine Ev.step (fun k => ?_) h1
   simp only [spec_LevelsBack.l3, ha]
   rw [if_pos (by omega), if_pos (by omega), if_pos (by omega), if_pos (by omega), if_pos (by rw [scat_len, ho]; omega), Int.toNat_natCast, wrap_id (x := (i : Int) + 1) (by omega) (by omega), cast1]
   rfl
 exact H 0 (by omega)
theorem sback_small (x0 out : List Int) (kk : Nat) (hk : kk < 4) (ho : out.length = 64) (l : List Int) (hl : l.length = 16) (a : Bool) (q : Int) (hq : 0 ≤ q ∧ q ≤ 40) (c d : Bool) (R : List Int × Bool)
  (h : Ev (fun k => spec_LevelsBack.l1 k x0 (scat out kk (fbv (l.mapIdx (fun i x => smallB x q (i : Int)))) 16) ((kk + 1 : Nat) : Int) a q c d) R) : Ev (fun k => spec_LevelsBack.l2 k x0 out (kk : Int) l 0 a q c d) R := by
 have hok := smallB_ok l hl hq
 obtain ⟨m, hm⟩ : ∃ m, m = l.mapIdx (fun i x => smallB x q (i : Int)) := ⟨_, rfl⟩
 have lm : m.length = 16 := by rw [hm, List.length_mapIdx, hl]
 rw [← hm] at h hok
 have H : ∀ i, i ≤ 16 → Ev (fun k => spec_LevelsBack.l2 k x0 out (kk : Int) (m.take i ++ l.drop i) (i : Int) a q c d) R := by
  refine down 16 ?_ ?_
  ·have e : m.take 16 ++ l.drop 16 = m := by rw [List.take_of_length_le (by omega), List.drop_eq_nil_of_le (by omega), List.append_nil]
   have hF : ((fbv m).length : Nat) = 16 := fbv_len16 hok
   refine Ev.step (f := fun k => (spec_FourBack.f k m).bind fun t => (spec_LevelsBack.l3 k x0 out (kk : Int) t 0 a q c d)) (fun k => ?_) (Ev.bind (sfourback_ev m (by omega)) (sback_scat x0 out (fbv m) kk hk ho hF a q c d R h))
   simp only [spec_LevelsBack.l2]
   rw [if_neg (by omega), e]
  ·intro i hi h1
   have hr := mix_rd m l i (by omega) (by omega)
   have hlen := mix_length m l i (by omega) (by omega)
   have hset := mix_set m l i (by omega) (by omega)
   have hv : m[i]'(by omega) = smallB (l[i]'(by omega)) q (i : Int) := by simp [hm]
   rw [hv] at hset
   refine Ev.step (f := fun k => (spec_SmallBack.f k (l[i]'(by omega)) q (i : Int)).bind fun t => spec_LevelsBack.l2 k x0 out (kk : Int) ((m.take i ++ l.drop i).set i t) ((i : Int) + 1) a q c d) (fun k => ?_) (Ev.bind (ssmallback_ev _ q _) ?_)
   ·simp only [spec_LevelsBack.l2]
    rw [if_pos (by omega), if_pos (by omega), if_pos (by rw [hlen]; omega), hr, Int.toNat_natCast, wrap_id (x := (i : Int) + 1) (by omega) (by omega)]
   ·rw [hset]
    exact h1
 have h0 := H 0 (by omega)
 exact h0
theorem sback_rounds (l : List Int) (hl : l.length = 64) (a : Bool) (q : Int) (hq : 0 ≤ q ∧ q ≤ 40) (c d : Bool) : Ev (fun k => spec_LevelsBack.l1 k l (List.replicate 64 0) 0 a q c d) (outb l q 4, true) := by
 have H : ∀ kk, kk ≤ 4 → Ev (fun k => spec_LevelsBack.l1 k l (outb l q kk) (kk : Int) a q c d) (outb l q 4, true) := by
  refine down 4 ?_ ?_
  ·exact Ev.step (f := fun _ => some (outb l q 4, true)) (fun k => by simp only [spec_LevelsBack.l1]; rw [if_neg (by omega)]) (Ev.now _)
  ·intro kk hk h
   have lz := slc_len l hl kk hk
   have h3 := sback_small l (outb l q kk) kk hk (outb_len l q kk) (unscv 4 (slc l kk)) (by rw [unscv_len, lz]) a q hq c d _ h
   have hs := sunscanned_ev 4 (slc l kk)
   rw [if_pos (show ScOk 4 (slc l kk) from Or.inl ⟨rfl, lz⟩)] at hs
   have e1 : wrap64 (16 * (kk : Int)) = ((16 * kk : Nat) : Int) := by rw [wrap_id (by omega) (by omega)]; omega
   have e2 : wrap64 (((16 * kk : Nat) : Int) + 16) = ((16 * kk + 16 : Nat) : Int) := by rw [wrap_id (by omega) (by omega)]; omega
   refine Ev.step (f := fun k => (spec_Unscanned.f k 4 (slc l kk)).bind fun bt => (spec_LevelsBack.l2 k l (outb l q kk) (kk : Int) bt.1 0 a q c d)) (fun k => ?_) (Ev.bind hs ?_)
   ·simp only [spec_LevelsBack.l1, e1, e2]
    rw [if_pos (by omega), if_pos (by omega), if_pos (by omega), if_pos (by omega), Int.toNat_natCast, Int.toNat_natCast]
    rfl
   ·exact h3
 exact H 0 (by omega)
theorem slevelsback_ev (l : List Int) (hl : l.length ≤ 17592186043904) (a : Bool) (q : Int) (c d : Bool) : Ev (fun k => spec_LevelsBack.f k l a q c d) (lbN l q c d) := by
 have hbad : Ev (fun k => spec_LevelsBack.j0 k l true a q c d) ([], false) := Ev.step (f := fun _ => some ([], false)) (fun k => by simp only [spec_LevelsBack.j0]; rfl) (Ev.now _)
 unfold spec_LevelsBack.f lbN
 simp only [scond_val, Option.bind_some]
 cases hc : condB q c d with
 | false =>
  simp only [Bool.false_eq_true, if_false, and_false]
  exact hbad
 | true =>
  have hq := condB_in hc
  simp only [if_true, and_true]
  refine Ev.bind (all_ev l 64 5000 hl (by omega) (by omega)) ?_
  rw [len_dec4 l 64 64 rfl]
  by_cases h0 : l.length = 64 ∧ allB (-5000) 5000 l = true
  ·rw [decide_eq_true h0.1, h0.2, if_pos ⟨h0.1, rfl⟩]
   have hs := sunscanned_ev 8 l
   rw [if_pos (show ScOk 8 l from Or.inr ⟨rfl, h0.1⟩)] at hs
   cases d with
   | true =>
    refine Ev.step (fun k => by simp only [spec_LevelsBack.j0, Bool.and_self, Bool.not_true, Bool.false_eq_true, if_false, if_true]; rfl) (Ev.bind hs ?_)
    simp only [if_true]; exact Ev.now _
   | false =>
    cases c with
    | true =>
     have hu : (unscv 8 l).length = 64 := by rw [unscv_len, h0.1]
     refine Ev.step (fun k => by simp only [spec_LevelsBack.j0, Bool.and_self, Bool.not_true, Bool.false_eq_true, if_false, if_true]; rfl) (Ev.bind hs ?_)
     exact sback_large _ hu a q hq true false
    | false =>
     have g : (64 : Nat) ≤ 35184372088832 := by omega
     refine Ev.step (fun k => by simp only [spec_LevelsBack.j0, Bool.and_self, Bool.not_true, Bool.false_eq_true, if_false, g, if_true]) (sback_rounds l h0.1 a q hq false false)
  ·rw [and_false4 h0, if_neg h0]
   exact hbad
theorem FnExactLevelsBack : laws_FnExactLevelsBack.Pure := by
 intro l a q c d _ hl _ _
 refine Ev.rounds ?_
 unfold laws_FnExactLevelsBack.f
 by_cases h : (l.length : Int) > 1048576
 ·simp only [h, if_true]; exact Ev.now _
 ·simp only [h, if_false]
  have hT := toInts_ev l (by omega)
  have hS := slevelsback_ev l (by omega) a q c d
  have hI := levelsback_ev l (by omega) a q c d
  have hlen := lbN_len l q c d
  generalize lbN l q c d = r at hS hI hlen
  have hE := eqSelf_ev r.1 (by omega)
  have hEl := eqSelf_ev l (by omega)
  have hM := mark_ev l 1 (by omega) (by omega) (by omega)
  have hMr := mark_ev r.1 1 (by omega) (by omega) (by omega)
  have hH := held_ev r.1.length 1 (by omega) (by omega) (by omega)
  have n1 : ¬ (1 + (l.length : Int) < 0) := by omega
  have n2 : ¬ (1 + (r.1.length : Int) < 0) := by omega
  simp only [laws_toCond.f, Option.bind_some]
  repeat' (first
   | exact Ev.now _
   | (refine Ev.bind (by assumption) ?_)
   | (simp only [if_true, if_false, bne_self_eq_false, Bool.false_eq_true, n1, n2])
   | (refine Ev.step (fun k => by simp only [laws_FnExactLevelsBack.j0, laws_FnExactLevelsBack.j1, laws_FnExactLevelsBack.j2, laws_toCond.f, Option.bind_some]; rfl) ?_))
end Go.Proofs.Ytlmlkoalicjlhaa.Pure