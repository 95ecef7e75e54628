/- The program's LevelsOf answers what the reference's LevelsOf answers, for all lists and conditions, in new memory, and leaves its argument as it was. No condition beside the row's own. -/
import Derived.Test.YtlmlkoalicjlhaaQFnExactLevelsOfx14
namespace Go.Proofs.Ytlmlkoalicjlhaa.Pure
open Go.RowKit Go.Proofs.Ytlmlkoalicjlhaa.QFnExactLevelsOf Go.Proofs.YtlmlkoalicjlhaaW.PrintWords Go.Proofs.YtlmlkoalicjlhaaW.PrintLast Go.Proofs.YtlmlkoalicjlhaaW.PrintMore Go.Proofs.YtlmlkoalicjlhaaV
set_option linter.unusedVariables false
set_option linter.unusedSimpArgs false
theorem wrap_id {x : Int} (h0 : -9223372036854775808 ≤ x) (h1 : x ≤ 9223372036854775807) : wrap64 x = x := by
 unfold wrap64
 omega
theorem within_eq (a b c : Int) : impl_within.f a b c = some (decide (b ≤ a ∧ a ≤ c)) := by
 unfold impl_within.f
 by_cases h : a ≥ b
 ·rw [if_pos h]; congr 1; rw [decide_eq_decide]; omega
 ·rw [if_neg h]; congr 1; symm; rw [decide_eq_false_iff_not]; omega
theorem in_eq (a b c : Int) : spec_l01In.f a b c = some (decide (b ≤ a ∧ a ≤ c)) := by
 unfold spec_l01In.f
 by_cases h : a ≥ b
 ·rw [if_pos h]; congr 1; rw [decide_eq_decide]; omega
 ·rw [if_neg h]; congr 1; symm; rw [decide_eq_false_iff_not]; omega
theorem down {P : Nat → Prop} (n : Nat) (h0 : P n) (hs : ∀ i, i < n → P (i + 1) → P i) : ∀ i, i ≤ n → P i := by
 intro i hi
 obtain ⟨d, hd⟩ : ∃ d, d = n - i := ⟨_, rfl⟩
 induction d generalizing i with
 | zero =>
  have : i = n := by omega
  subst this; exact h0
 | succ d ih => exact hs i (by omega) (ih (i + 1) (by omega) (by omega))
theorem rd_nat (l : List Int) (i : Nat) (h : i < l.length) : rd l (i : Int) = l[i] := by
 unfold rd
 rw [List.getD_eq_getElem?_getD, Int.toNat_natCast, List.getElem?_eq_getElem h]; rfl
theorem cast1 (i : Nat) : ((i : Nat) : Int) + 1 = ((i + 1 : Nat) : Int) := rfl
theorem mix_set {α : Type} (l z : List α) (i : Nat) (hi : i < l.length) (hz : i < z.length) : (l.take i ++ z.drop i).set i l[i] = l.take (i + 1) ++ z.drop (i + 1) := by
 rw [List.set_append_right _ _ (by simp; omega)]
 rw [show i - (l.take i).length = 0 by simp; omega]
 rw [List.drop_eq_getElem_cons hz, List.set_cons_zero, List.take_succ_eq_append_getElem hi, List.append_assoc]; rfl
theorem mix_length {α : Type} (l z : List α) (i : Nat) (h : l.length = z.length) (hi : i ≤ l.length) : (l.take i ++ z.drop i).length = l.length := by
 simp; omega
theorem mix_end {α : Type} (l z : List α) (h : l.length = z.length) : l.take l.length ++ z.drop l.length = l := by
 rw [List.take_length, h, List.drop_length, List.append_nil]
theorem mix_zero {α : Type} (l z : List α) : l.take 0 ++ z.drop 0 = z := by simp
theorem drop_cons {α : Type} {l : List α} {i : Nat} (h : i < l.length) : l.drop i = l[i] :: l.drop (i + 1) := List.drop_eq_getElem_cons h
theorem toInts_ev (l : List Int) (hl : l.length ≤ 17592186043904) : Ev (fun k => laws_toIntS.f k l) l := by
 have H : ∀ i, i ≤ l.length → Ev (fun k => laws_toIntS.l0 k l (l.take i ++ (List.replicate l.length (0 : Int)).drop i) (i : Int)) l := by
  refine down l.length ?_ ?_
  ·refine Ev.step (f := fun _ => some l) (fun k => ?_) (Ev.now _)
   simp only [laws_toIntS.l0]
   rw [if_neg (by omega), mix_end _ _ (by simp)]
  ·intro i hi h
   refine Ev.step (fun k => ?_) h
   simp only [laws_toIntS.l0]
   rw [if_pos (by omega), if_pos (by omega), if_pos (by rw [mix_length _ _ _ (by simp) (by omega)]; omega), rd_nat l i hi, Int.toNat_natCast, mix_set _ _ _ hi (by simp; exact hi), wrap_id (by omega) (by omega), cast1]
 have h0 := H 0 (by omega)
 rw [mix_zero] at h0
 unfold laws_toIntS.f
 refine Ev.congr (fun k => ?_) h0
 rw [if_pos (by omega), if_pos (by simp; omega), Int.toNat_natCast]; rfl
theorem eqInts_ev (a b : List Int) (ha : a.length ≤ 17592186043904) : Ev (fun k => laws_eqIntS.f k a b) (decide (a = b)) := by
 by_cases hl : a.length = b.length
 ·have H : ∀ i, i ≤ a.length → Ev (fun k => laws_eqIntS.l0 k a b (i : Int)) (decide (a.drop i = b.drop i)) := by
   refine down a.length ?_ ?_
   ·refine Ev.step (f := fun _ => some true) (fun k => ?_) ?_
    ·simp only [laws_eqIntS.l0]
     rw [if_neg (by omega)]
    ·rw [show decide (a.drop a.length = b.drop a.length) = true by rw [hl]; simp [← hl]]; exact Ev.now _
   ·intro i hi h
    have hb : i < b.length := by omega
    by_cases c : a[i] = b[i]
    ·have e : decide (a.drop i = b.drop i) = decide (a.drop (i + 1) = b.drop (i + 1)) := by
      rw [decide_eq_decide, drop_cons hi, drop_cons hb, c, List.cons.injEq]; simp only [true_and]
     rw [e]
     refine Ev.step (fun k => ?_) h
     simp only [laws_eqIntS.l0]
     rw [if_pos (by omega), if_pos (by omega), if_pos (by omega), rd_nat a i hi, rd_nat b i hb, if_pos c, wrap_id (by omega) (by omega), cast1]
    ·have e : decide (a.drop i = b.drop i) = false := by
      rw [decide_eq_false_iff_not, drop_cons hi, drop_cons hb, List.cons.injEq]; exact fun h => c h.1
     rw [e]
     refine Ev.step (f := fun _ => some false) (fun k => ?_) (Ev.now _)
     simp only [laws_eqIntS.l0]
     rw [if_pos (by omega), if_pos (by omega), if_pos (by omega), rd_nat a i hi, rd_nat b i hb, if_neg c]
  have h0 := H 0 (by omega)
  unfold laws_eqIntS.f
  refine Ev.congr (fun k => ?_) h0
  rw [if_pos (by omega)]; rfl
 ·unfold laws_eqIntS.f
  rw [show decide (a = b) = false from decide_eq_false (fun h => hl (by rw [h]))]
  refine Ev.congr (f := fun _ => some false) (fun k => ?_) (Ev.now _)
  rw [if_neg (by omega)]
/-- All numbers of a list are from lo to hi. -/
def allB (lo hi : Int) (l : List Int) : Bool := l.all fun x => decide (lo ≤ x ∧ x ≤ hi)
theorem allB_cons (lo hi x : Int) (l : List Int) : allB lo hi (x :: l) = (decide (lo ≤ x ∧ x ≤ hi) && allB lo hi l) := rfl
theorem allB_iff {lo hi : Int} {l : List Int} : allB lo hi l = true ↔ ∀ x ∈ l, lo ≤ x ∧ x ≤ hi := by
 unfold allB
 rw [List.all_eq_true]
 simp only [decide_eq_true_eq]
theorem areIn_ev (l : List Int) (n lo hi : Int) (hl : l.length ≤ 17592186043904) : Ev (fun k => impl_areIn.f k l n lo hi) (decide ((l.length : Int) = n) && allB lo hi l) := by
 have H : ∀ i, i ≤ l.length → Ev (fun k => impl_areIn.l0 k l n lo hi l (l.length : Int) (i : Int)) (decide ((l.length : Int) = n) && allB lo hi (l.drop i)) := by
  refine down l.length ?_ ?_
  ·refine Ev.step (f := fun _ => some (decide ((l.length : Int) = n))) (fun k => ?_) ?_
   ·simp only [impl_areIn.l0]
    rw [if_neg (by omega)]; congr 1
   ·rw [List.drop_length]; simp only [allB, List.all_nil, Bool.and_true]; exact Ev.now _
  ·intro i h1 h
   rw [drop_cons h1, allB_cons]
   by_cases c : lo ≤ l[i] ∧ l[i] ≤ hi
   ·rw [decide_eq_true c, Bool.true_and]
    refine Ev.step (fun k => ?_) h
    simp only [impl_areIn.l0]
    rw [if_pos (by omega), if_pos (by omega), if_pos (by omega), rd_nat l i h1, within_eq, Option.bind_some, if_pos (decide_eq_true c), wrap_id (by omega) (by omega), cast1]
   ·rw [decide_eq_false c, Bool.false_and, Bool.and_false]
    refine Ev.step (f := fun _ => some false) (fun k => ?_) (Ev.now _)
    simp only [impl_areIn.l0]
    rw [if_pos (by omega), if_pos (by omega), if_pos (by omega), rd_nat l i h1, within_eq, Option.bind_some, if_neg (by simpa using c)]
 exact H 0 (by omega)
theorem all_ev (l : List Int) (n m : Int) (hl : l.length ≤ 17592186043904) (hm : 0 ≤ m) (hm' : m ≤ 1000000000) : Ev (fun k => spec_l09All.f k l n m) (decide ((l.length : Int) = n) && allB (-m) m l) := by
 unfold spec_l09All.f
 by_cases hn : (l.length : Int) = n
 ·subst hn
  have H : ∀ i, i ≤ l.length → Ev (fun k => spec_l09All.l0 k l (l.length : Int) m (i : Int)) (allB (-m) m (l.drop i)) := by
   refine down l.length ?_ ?_
   ·refine Ev.step (f := fun _ => some true) (fun k => ?_) ?_
    ·simp only [spec_l09All.l0]
     rw [if_neg (by omega)]
    ·rw [List.drop_length]; exact Ev.now _
   ·intro i h1 h
    rw [drop_cons h1, allB_cons]
    by_cases c : -m ≤ l[i] ∧ l[i] ≤ m
    ·rw [decide_eq_true c, Bool.true_and]
     refine Ev.step (fun k => ?_) h
     simp only [spec_l09All.l0]
     rw [if_pos (by omega), if_pos (by omega), if_pos (by omega), rd_nat l i h1, wrap_id (x := -m) (by omega) (by omega), in_eq, Option.bind_some, if_pos (decide_eq_true c), wrap_id (by omega) (by omega), cast1]
    ·rw [decide_eq_false c, Bool.false_and]
     refine Ev.step (f := fun _ => some false) (fun k => ?_) (Ev.now _)
     simp only [spec_l09All.l0]
     rw [if_pos (by omega), if_pos (by omega), if_pos (by omega), rd_nat l i h1, wrap_id (x := -m) (by omega) (by omega), in_eq, Option.bind_some, if_neg (by simpa using c)]
  refine Ev.congr (fun k => by rw [if_pos rfl]) ?_
  rw [decide_eq_true rfl, Bool.true_and]
  exact H 0 (by omega)
 ·rw [decide_eq_false hn, Bool.false_and]
  exact Ev.congr (f := fun _ => some false) (fun k => by rw [if_neg hn]) (Ev.now _)
/-- The numbers a, a + 1, .., n of them. -/
def marks : Nat → Int → List Int
 | 0, _ => []
 | n + 1, a => a :: marks n (a + 1)
theorem marks_length (n : Nat) : ∀ a, (marks n a).length = n := by
 induction n with
 | zero => intro a; rfl
 | succ n ih => intro a; simp [marks, ih]
theorem marks_get (n : Nat) : ∀ (a : Int) (i : Nat) (h : i < (marks n a).length), (marks n a)[i] = a + i := by
 induction n with
 | zero => intro a i h; simp [marks] at h
 | succ n ih =>
  intro a i h
  cases i with
  | zero => simp [marks]
  | succ i =>
   have := ih (a + 1) i (by simp [marks] at h; exact h)
   simp only [marks, List.getElem_cons_succ]
   rw [this]
   have e : ((i + 1 : Nat) : Int) = (i : Int) + 1 := rfl
   rw [e]; omega
theorem mark_ev (l : List Int) (a : Int) (hl : l.length ≤ 17592186043904) (h0 : 0 ≤ a) (h1 : a ≤ 1000000000000) : Ev (fun k => laws_markIntS.f k l a) (a + (l.length : Int), marks l.length a) := by
 have hm := marks_length l.length a
 have H : ∀ i, i ≤ l.length → Ev (fun k => laws_markIntS.l0 k ((marks l.length a).take i ++ l.drop i) (a + (i : Int)) (i : Int)) (a + (l.length : Int), marks l.length a) := by
  refine down l.length ?_ ?_
  ·refine Ev.step (f := fun _ => some (a + (l.length : Int), marks l.length a)) (fun k => ?_) (Ev.now _)
   have e := mix_end (marks l.length a) l hm
   rw [hm] at e
   simp only [laws_markIntS.l0]
   rw [e, if_neg (by rw [hm]; omega)]
  ·intro i hi h
   refine Ev.step (fun k => ?_) h
   have e := mix_set (marks l.length a) l i (by omega) hi
   rw [marks_get] at e
   simp only [laws_markIntS.l0]
   rw [if_pos (by rw [mix_length _ _ _ hm (by omega)]; omega), if_pos (by omega), Int.toNat_natCast, e, wrap_id (x := a + (i : Int) + 1) (by omega) (by omega), wrap_id (x := (i : Int) + 1) (by omega) (by omega), Int.add_assoc, cast1]
 have h := H 0 (by omega)
 rw [mix_zero] at h
 simpa [laws_markIntS.f] using h
theorem held_ev (n : Nat) (a : Int) (hl : n ≤ 17592186043904) (h0 : 0 ≤ a) (h1 : a ≤ 1000000000000) : Ev (fun k => laws_heldIntS.f k (marks n a) a) (a + (n : Int)) := by
 have hm := marks_length n a
 have H : ∀ i, i ≤ n → Ev (fun k => laws_heldIntS.l0 k (marks n a) (a + (i : Int)) (i : Int)) (a + (n : Int)) := by
  refine down n ?_ ?_
  ·refine Ev.step (f := fun _ => some (a + (n : Int))) (fun k => ?_) (Ev.now _)
   simp only [laws_heldIntS.l0]
   rw [hm, if_neg (by omega)]
  ·intro i hi h
   refine Ev.step (fun k => ?_) h
   simp only [laws_heldIntS.l0]
   rw [if_pos (by omega), if_pos (by omega), rd_nat _ i (by omega), marks_get, if_pos rfl, wrap_id (x := a + (i : Int) + 1) (by omega) (by omega), wrap_id (x := (i : Int) + 1) (by omega) (by omega), Int.add_assoc, cast1]
 have h := H 0 (by omega)
 simpa [laws_heldIntS.f] using h
theorem eqSelf_ev (a : List Int) (ha : a.length ≤ 17592186043904) : Ev (fun k => laws_eqIntS.f k a a) true := by
 have h := eqInts_ev a a ha
 rwa [decide_eq_true rfl] at h
def FoOk (x : List Int) : Prop := x.length = 16 ∧ allB (-1000) 1000 x = true
instance (x : List Int) : Decidable (FoOk x) := by unfold FoOk; infer_instance
theorem list16 (x : List Int) (h : x.length = 16) : ∃ a0 a1 a2 a3 a4 a5 a6 a7 a8 a9 a10 a11 a12 a13 a14 a15, x = [a0, a1, a2, a3, a4, a5, a6, a7, a8, a9, a10, a11, a12, a13, a14, a15] := by
 match x, h with
 | [a0, a1, a2, a3, a4, a5, a6, a7, a8, a9, a10, a11, a12, a13, a14, a15], _ => exact ⟨a0, a1, a2, a3, a4, a5, a6, a7, a8, a9, a10, a11, a12, a13, a14, a15, rfl⟩
theorem len_dec4 (l : List Int) (n : Nat) (m : Int) (h : m = (n : Int)) : decide ((l.length : Int) = m) = decide (l.length = n) := by rw [decide_eq_decide]; omega
theorem and_false4 {b : Bool} {p : Prop} [Decidable p] (h : ¬ (p ∧ b = true)) : (decide p && b) = false := by
 rw [Bool.eq_false_iff]; intro h'; rw [Bool.and_eq_true, decide_eq_true_eq] at h'; exact h h'
theorem turnedL_len (T x) : (turnedL T x).length = x.length := by simp [turnedL, colsT, rowsT, colT, rowT]
theorem Ev.from {α : Type} {f : Nat → Option α} {v : α} (n : Nat) (h : ∀ k, f (k + n) = some v) : Ev f v := by
 refine ⟨n, fun k hk => ?_⟩
 have e := h (k - n)
 rwa [Nat.sub_add_cancel hk] at e
theorem sfour16 (a0 a1 a2 a3 a4 a5 a6 a7 a8 a9 a10 a11 a12 a13 a14 a15 : Int) (k : Nat) : ((spec_l09Rows.f (k + 17) [a0, a1, a2, a3, a4, a5, a6, a7, a8, a9, a10, a11, a12, a13, a14, a15]).bind fun t125 => ((spec_l09Flip.f (k + 17) t125).bind fun t128 => ((spec_l09Rows.f (k + 17) t128).bind fun t131 => ((spec_l09Flip.f (k + 17) t131).bind fun t134 => (some t134))))) = some (turnedL t4 [a0, a1, a2, a3, a4, a5, a6, a7, a8, a9, a10, a11, a12, a13, a14, a15]) := by kernel_rfl
theorem sfour_ev (x : List Int) (hx : x.length ≤ 17592186043904) : Ev (fun k => spec_Four.f k x) (if FoOk x then turnedL t4 x else []) := by
 unfold spec_Four.f
 refine Ev.bind (all_ev x 16 1000 hx (by omega) (by omega)) ?_
 rw [len_dec4 x 16 16 rfl]
 by_cases c : FoOk x
 ·rw [if_pos c, decide_eq_true c.1, c.2]
  simp only [Bool.and_self, if_true]
  obtain ⟨a0, a1, a2, a3, a4, a5, a6, a7, a8, a9, a10, a11, a12, a13, a14, a15, rfl⟩ := list16 x c.1
  exact Ev.from 17 (fun k => sfour16 a0 a1 a2 a3 a4 a5 a6 a7 a8 a9 a10 a11 a12 a13 a14 a15 k)
 ·rw [if_neg c, and_false4 c]
  simp only [Bool.false_eq_true, if_false]; exact Ev.now _
theorem four_ev (x : List Int) (hx : x.length ≤ 17592186043904) : Ev (fun k => impl_Four.f k x) (if FoOk x then turnedL t4 x else []) := by
 unfold impl_Four.f
 refine Ev.bind (areIn_ev x 16 (-1000) 1000 hx) ?_
 rw [len_dec4 x 16 16 rfl]
 by_cases c : FoOk x
 ·rw [if_pos c, decide_eq_true c.1, c.2]
  simp only [Bool.and_self, if_true]
  rw [if_pos c.1]
  exact Ev.now _
 ·rw [if_neg c, and_false4 c]
  simp only [Bool.false_eq_true, if_false]; exact Ev.now _
def ord4 : List Int := [0, 1, 4, 8, 5, 2, 3, 6, 9, 12, 13, 10, 7, 11, 14, 15]
def ord8 : List Int := [0, 1, 8, 16, 9, 2, 3, 10, 17, 24, 32, 25, 18, 11, 4, 5, 12, 19, 26, 33, 40, 48, 41, 34, 27, 20, 13, 6, 7, 14, 21, 28, 35, 42, 49, 56, 57, 50, 43, 36, 29, 22, 15, 23, 30, 37, 44, 51, 58, 59, 52, 45, 38, 31, 39, 46, 53, 60, 61, 54, 47, 55, 62, 63]
def ordOf (side : Int) : List Int := if side = 4 then ord4 else ord8
/-- A side and its number of places. -/
def SideN (side : Int) (n : Nat) : Prop := side = 4 ∧ n = 16 ∨ side = 8 ∧ n = 64
theorem ord_len {side : Int} {n : Nat} (h : SideN side n) : (ordOf side).length = n := by rcases h with ⟨rfl, rfl⟩ | ⟨rfl, rfl⟩ <;> rfl
theorem ord_in {side : Int} {n : Nat} (h : SideN side n) : ∀ x ∈ ordOf side, 0 ≤ x ∧ x < (n : Int) := by
 rcases h with ⟨rfl, rfl⟩ | ⟨rfl, rfl⟩
 ·decide +kernel
 ·decide +kernel
theorem order4 : impl_scanOrder.f 100 4 = some ord4 := by decide +kernel
theorem order8 : impl_scanOrder.f 300 8 = some ord8 := by decide +kernel
theorem order_ev {side : Int} {n : Nat} (h : SideN side n) : Ev (fun k => impl_scanOrder.f k side) (ordOf side) := by
 rcases h with ⟨rfl, rfl⟩ | ⟨rfl, rfl⟩
 ·exact Ev.of (fun k => impl_scanOrder.mono _ _) order4
 ·exact Ev.of (fun k => impl_scanOrder.mono _ _) order8
theorem sat4 : ∀ j : Fin 16, spec_ScanAt.f 200 4 (j.val : Int) = some (rd ord4 (j.val : Int)) := by decide +kernel
theorem sat8 : ∀ j : Fin 64, spec_ScanAt.f 400 8 (j.val : Int) = some (rd ord8 (j.val : Int)) := by decide +kernel
theorem sat_ev {side : Int} {n : Nat} (h : SideN side n) (i : Nat) (hi : i < n) : Ev (fun k => spec_ScanAt.f k side (i : Int)) (rd (ordOf side) (i : Int)) := by
 rcases h with ⟨rfl, rfl⟩ | ⟨rfl, rfl⟩
 ·exact Ev.of (fun k => spec_ScanAt.mono _ _ _) (sat4 ⟨i, hi⟩)
 ·exact Ev.of (fun k => spec_ScanAt.mono _ _ _) (sat8 ⟨i, hi⟩)
/-- A list in the order of the scan. -/
def scanv (side : Int) (l : List Int) : List Int := (ordOf side).map (rd l)
theorem scanv_len {side : Int} {n : Nat} (h : SideN side n) (l : List Int) : (scanv side l).length = n := by rw [scanv, List.length_map, ord_len h]
theorem take_snoc' (l : List Int) (i : Nat) (h : i < l.length) : l.take i ++ [l[i]] = l.take (i + 1) := (List.take_succ_eq_append_getElem h).symm
def ScOk (side : Int) (l : List Int) : Prop := (side = 4 ∧ l.length = 16) ∨ (side = 8 ∧ l.length = 64)
instance (side : Int) (l : List Int) : Decidable (ScOk side l) := by unfold ScOk; infer_instance
theorem scok_side {side : Int} {l : List Int} (h : ScOk side l) : SideN side l.length := by rcases h with ⟨rfl, e⟩ | ⟨rfl, e⟩ <;> rw [e] <;> simp [SideN]
theorem scanned_loop {side : Int} {l : List Int} (h : SideN side l.length) : ∀ i, i ≤ l.length → Ev (fun k => impl_Scanned.l0 k l ((scanv side l).take i) (ordOf side) ((ordOf side).length : Int) (i : Int)) (scanv side l, true) := by
 have hn := ord_len h
 have hs := scanv_len h l
 have hlen : l.length ≤ 64 := by rcases h with ⟨_, e⟩ | ⟨_, e⟩ <;> omega
 refine down l.length ?_ ?_
 ·refine Ev.step (f := fun _ => some (scanv side l, true)) (fun k => ?_) (Ev.now _)
  simp only [impl_Scanned.l0]
  rw [if_neg (by omega), List.take_of_length_le (by omega)]
 ·intro i hi hh
  refine Ev.step (fun k => ?_) hh
  have hb := ord_in h (ordOf side)[i] (List.getElem_mem (by omega))
  have e : (scanv side l)[i]'(by omega) = rd l ((ordOf side)[i]'(by omega)) := by simp [scanv]
  simp only [impl_Scanned.l0]
  rw [if_pos (by omega), if_pos (by omega), if_pos (by omega), rd_nat _ i (by omega), if_pos hb.1, if_pos hb.2, if_pos (by simp; omega), ← e, take_snoc', wrap_id (by omega) (by omega), cast1]
theorem scanned_ev (side : Int) (l : List Int) : Ev (fun k => impl_Scanned.f k side l) (if ScOk side l then (scanv side l, true) else ([], false)) := by
 unfold impl_Scanned.f
 simp only [Option.bind_some]
 have hbad : Ev (fun k => impl_Scanned.j0 k side l [] true) ([], false) := Ev.step (f := fun _ => some ([], false)) (fun k => by simp only [impl_Scanned.j0]; rfl) (Ev.now _)
 have hok : ScOk side l → Ev (fun k => impl_Scanned.j0 k side l [] false) (scanv side l, true) := fun h =>
  Ev.step (fun k => by simp only [impl_Scanned.j0, Bool.false_eq_true, if_false]; rfl) (Ev.bind (order_ev (scok_side h)) (by simpa using scanned_loop (scok_side h) 0 (by omega)))
 by_cases c4 : side = 4
 ·subst c4
  rw [wrap_id (x := 4 * 4) (by omega) (by omega)]
  by_cases c : l.length = 16
  ·rw [if_pos (.inl ⟨rfl, c⟩)]
   simp only [if_true, c, show (((16 : Nat) : Int) != 4 * 4) = false from by decide]
   exact hok (.inl ⟨rfl, c⟩)
  ·rw [if_neg (by rintro (⟨_, h⟩ | ⟨h, _⟩); exact c h; exact absurd h (by decide))]
   simp only [if_true, show ((l.length : Int) != 4 * 4) = true from by rw [bne_iff_ne]; omega]
   exact hbad
 ·by_cases c8 : side = 8
  ·subst c8
   simp only [if_neg c4]
   rw [wrap_id (x := 8 * 8) (by omega) (by omega)]
   by_cases c : l.length = 64
   ·rw [if_pos (.inr ⟨rfl, c⟩)]
    simp only [if_true, c, show (((64 : Nat) : Int) != 8 * 8) = false from by decide]
    exact hok (.inr ⟨rfl, c⟩)
   ·rw [if_neg (by rintro (⟨h, _⟩ | ⟨_, h⟩); exact absurd h (by decide); exact c h)]
    simp only [if_true, show ((l.length : Int) != 8 * 8) = true from by rw [bne_iff_ne]; omega]
    exact hbad
  ·rw [if_neg (by rintro (⟨h, _⟩ | ⟨h, _⟩); exact c4 h; exact c8 h)]
   simp only [if_neg c4, if_neg c8]
   exact hbad
theorem sscanned_loop {side : Int} {l : List Int} (h : SideN side l.length) : ∀ i, i ≤ l.length → Ev (fun k => spec_Scanned.l0 k side l ((scanv side l).take i) (i : Int)) (scanv side l, true) := by
 have hn := ord_len h
 have hs := scanv_len h l
 have hlen : l.length ≤ 64 := by rcases h with ⟨_, e⟩ | ⟨_, e⟩ <;> omega
 have hsq : wrap64 (side * side) = (l.length : Int) := by rcases h with ⟨rfl, e⟩ | ⟨rfl, e⟩ <;> rw [e] <;> decide +kernel
 refine down l.length ?_ ?_
 ·refine Ev.step (f := fun _ => some (scanv side l, true)) (fun k => ?_) (Ev.now _)
  simp only [spec_Scanned.l0]
  rw [hsq, if_neg (by omega), List.take_of_length_le (by omega)]
 ·intro i hi hh
  have hb := ord_in h (ordOf side)[i] (List.getElem_mem (by omega))
  have e : (scanv side l)[i]'(by omega) = rd l ((ordOf side)[i]'(by omega)) := by simp [scanv]
  refine Ev.step (fun k => by simp only [spec_Scanned.l0]; rw [hsq, if_pos (by omega)]) (Ev.bind (sat_ev h i hi) ?_)
  rw [rd_nat _ i (by omega)]
  simp only [hb.1, hb.2, if_true]
  refine Ev.congr (fun k => ?_) hh
  rw [if_pos (by simp; omega), ← e, take_snoc', wrap_id (by omega) (by omega), cast1]
theorem sscanned_ev (side : Int) (l : List Int) : Ev (fun k => spec_Scanned.f k side l) (if ScOk side l then (scanv side l, true) else ([], false)) := by
 unfold spec_Scanned.f
 simp only [Option.bind_some]
 have hbad : Ev (fun k => spec_Scanned.j0 k side l [] true) ([], false) := Ev.step (f := fun _ => some ([], false)) (fun k => by simp only [spec_Scanned.j0]; rfl) (Ev.now _)
 have hok : ScOk side l → Ev (fun k => spec_Scanned.j0 k side l [] false) (scanv side l, true) := fun h =>
  Ev.step (fun k => by simp only [spec_Scanned.j0, Bool.false_eq_true, if_false]; rfl) (by simpa using sscanned_loop (scok_side h) 0 (by omega))
 by_cases c4 : side = 4
 ·subst c4
  rw [wrap_id (x := 4 * 4) (by omega) (by omega)]
  by_cases c : l.length = 16
  ·rw [if_pos (.inl ⟨rfl, c⟩)]
   simp only [if_true, c, show (((16 : Nat) : Int) != 4 * 4) = false from by decide]
   exact hok (.inl ⟨rfl, c⟩)
  ·rw [if_neg (by rintro (⟨_, h⟩ | ⟨h, _⟩); exact c h; exact absurd h (by decide))]
   simp only [if_true, show ((l.length : Int) != 4 * 4) = true from by rw [bne_iff_ne]; omega]
   exact hbad
 ·by_cases c8 : side = 8
  ·subst c8
   simp only [if_neg c4]
   rw [wrap_id (x := 8 * 8) (by omega) (by omega)]
   by_cases c : l.length = 64
   ·rw [if_pos (.inr ⟨rfl, c⟩)]
    simp only [if_true, c, show (((64 : Nat) : Int) != 8 * 8) = false from by decide]
    exact hok (.inr ⟨rfl, c⟩)
   ·rw [if_neg (by rintro (⟨h, _⟩ | ⟨_, h⟩); exact absurd h (by decide); exact c h)]
    simp only [if_true, show ((l.length : Int) != 8 * 8) = true from by rw [bne_iff_ne]; omega]
    exact hbad
  ·rw [if_neg (by rintro (⟨h, _⟩ | ⟨h, _⟩); exact c4 h; exact c8 h)]
   simp only [if_neg c4, if_neg c8]
   exact hbad
def atq (k i : Nat) : Nat := 8 * (k / 2 * 4 + i / 4) + k % 2 * 4 + i % 4
def qL (k : Nat) : List Int := (List.range 16).map fun i => (atq k i : Int)
def qv (l : List Int) (k : Nat) : List Int := (qL k).map (rd l)
theorem qL_len (k : Nat) : (qL k).length = 16 := by simp [qL]
theorem qv_len (l : List Int) (k : Nat) : (qv l k).length = 16 := by simp [qv, qL]
theorem atq_lt (k i : Nat) (hk : k < 4) (hi : i < 16) : atq k i < 64 := by unfold atq; omega
theorem qL_rd (k i : Nat) (hi : i < 16) : rd (qL k) (i : Int) = (atq k i : Int) := by
 rw [rd_nat _ i (by rw [qL_len]; exact hi)]; simp [qL]
theorem qv_get (l : List Int) (k i : Nat) (hi : i < 16) : rd l (atq k i : Int) = (qv l k)[i]'(by rw [qv_len]; exact hi) := by simp [qv, qL]
theorem mix_rd (m l : List Int) (i : Nat) (hi : i < l.length) (h : m.length = l.length) : rd (m.take i ++ l.drop i) (i : Int) = l[i] := by
 unfold rd
 rw [Int.toNat_natCast, List.getD_eq_getElem?_getD, List.getElem?_append_right (by rw [List.length_take]; omega), List.length_take, Nat.min_eq_left (by omega), Nat.sub_self, List.getElem?_drop, Nat.add_zero, List.getElem?_eq_getElem hi]
 rfl
theorem atq_fin : ∀ (k : Fin 4) (i : Fin 16), (wrap64 ((wrap64 ((wrap64 (8 * (wrap64 ((wrap64 ((wrap64 (Int.tdiv (k.val : Int) 2)) * 4)) + (wrap64 (Int.tdiv (i.val : Int) 4)))))) + (wrap64 ((Int.tmod (k.val : Int) 2) * 4)))) + (Int.tmod (i.val : Int) 4))) = (atq k.val i.val : Int) := by decide +kernel
theorem quarter_fin : ∀ k : Fin 4, impl_quarter.f 60 (k.val : Int) = some (qL k.val) := by decide +kernel
theorem quarter_ev (k : Nat) (hk : k < 4) : Ev (fun n => impl_quarter.f n (k : Int)) (qL k) := Ev.of (fun n => impl_quarter.mono _ _) (quarter_fin ⟨k, hk⟩)
theorem squarter_ev (l : List Int) (hl : l.length = 64) (kk : Nat) (hk : kk < 4) : Ev (fun k => spec_l14Quarter.f k l (kk : Int)) (qv l kk) := by
 have lq := qv_len l kk
 have H : ∀ i, i ≤ 16 → Ev (fun k => spec_l14Quarter.l0 k l (kk : Int) ((qv l kk).take i) (i : Int)) (qv l kk) := by
  refine down 16 ?_ ?_
  ·have e : (qv l kk).take 16 = qv l kk := List.take_of_length_le (by omega)
   refine Ev.step (f := fun _ => some (qv l kk)) (fun k => ?_) (Ev.now _)
   simp only [spec_l14Quarter.l0]
   rw [if_neg (by omega), e]
  ·intro i hi h1
   have hv := qv_get l kk i hi
   have hat := atq_lt kk i hk hi
   have ha := atq_fin ⟨kk, hk⟩ ⟨i, hi⟩
   refine Ev.step (fun k => ?_) h1
   simp only [spec_l14Quarter.l0, ha]
   rw [if_pos (by omega), if_pos (by omega), if_pos (by omega), if_pos (by rw [List.length_take]; omega), wrap_id (x := (i : Int) + 1) (by omega) (by omega), hv, take_snoc' _ i (by omega), cast1]
 exact H 0 (by omega)
def condB (q : Int) (l e : Bool) : Bool := decide (0 ≤ q ∧ q ≤ 40) && !(l && e)
theorem cond_val (a : Bool) (q : Int) (l e : Bool) : impl_CondOk.f a q l e = some (condB q l e) := by
 unfold impl_CondOk.f condB
 rw [within_eq, Option.bind_some]
 by_cases c : 0 ≤ q ∧ q ≤ 40
 ·simp only [c, and_self, decide_true, if_true, Bool.true_and]
  cases l <;> cases e <;> rfl
 ·simp only [c, decide_false, Bool.false_eq_true, if_false, Bool.false_and]
theorem scond_val (a : Bool) (q : Int) (l e : Bool) : spec_CondOk.f a q l e = some (condB q l e) := by
 unfold spec_CondOk.f condB
 rw [in_eq, Option.bind_some]
 by_cases c : 0 ≤ q ∧ q ≤ 40
 ·simp only [c, and_self, decide_true, if_true, Bool.true_and]
  cases l <;> cases e <;> rfl
 ·simp only [c, decide_false, Bool.false_eq_true, if_false, Bool.false_and]
def sg (u k : Nat) : Int := if (u % 2 * (k % 2) + u / 2 % 2 * (k / 2 % 2) + u / 4 % 2 * (k / 4 % 2)) % 2 = 0 then 1 else -1
theorem sg_one (u k : Nat) : sg u k = 1 ∨ sg u k = -1 := by unfold sg; split <;> simp
/-- The sum of f 0 .. f (n - 1). -/
def sm (f : Nat → Int) : Nat → Int
 | 0 => 0
 | n + 1 => sm f n + f n
theorem sm_bound (f : Nat → Int) (B : Int) (n : Nat) (h : ∀ k, k < n → -B ≤ f k ∧ f k ≤ B) : -((n : Int) * B) ≤ sm f n ∧ sm f n ≤ (n : Int) * B := by
 induction n with
 | zero => simp [sm]
 | succ n ih =>
  have h1 := ih (fun k hk => h k (by omega))
  have h2 := h n (by omega)
  have e : ((n + 1 : Nat) : Int) * B = (n : Int) * B + B := by rw [show ((n + 1 : Nat) : Int) = (n : Int) + 1 from rfl, Int.add_mul, Int.one_mul]
  simp only [sm]; rw [e]; omega
theorem sgmul_bound {B x : Int} (u k : Nat) (h : -B ≤ x ∧ x ≤ B) : -B ≤ sg u k * x ∧ sg u k * x ≤ B := by
 rcases sg_one u k with e | e <;> rw [e] <;> omega
def halfAt (x : List Int) (i : Nat) (k : Nat) : Int := sg (i % 8) k * rd x ((8 * (i / 8) + k : Nat) : Int)
def halfv (x : List Int) : List Int := (List.range 64).map fun i => sm (halfAt x i) 8
def outAt (h : List Int) (i : Nat) (j : Nat) : Int := sg (i / 8) j * rd h ((8 * j + i % 8 : Nat) : Int)
def sums2 (h : List Int) : List Int := (List.range 64).map fun i => sm (outAt h i) 8
def sumsv (x : List Int) : List Int := sums2 (halfv x)
theorem halfv_len (x : List Int) : (halfv x).length = 64 := by simp [halfv]
theorem sums2_len (x : List Int) : (sums2 x).length = 64 := by simp [sums2]
theorem sumsv_len (x : List Int) : (sumsv x).length = 64 := sums2_len _
theorem halfv_get (x : List Int) (i : Nat) (h : i < (halfv x).length) : (halfv x)[i] = sm (halfAt x i) 8 := by simp [halfv]
theorem sums2_get (x : List Int) (i : Nat) (h : i < (sums2 x).length) : (sums2 x)[i] = sm (outAt x i) 8 := by simp [sums2]
theorem allB_at {lo hi : Int} {l : List Int} (h : allB lo hi l = true) (i : Nat) (hi' : i < l.length) : lo ≤ rd l (i : Int) ∧ rd l (i : Int) ≤ hi := by
 rw [rd_nat l i hi']; exact allB_iff.1 h _ (List.getElem_mem _)
theorem half_bound {x : List Int} {M : Int} (hx : x.length = 64) (h : allB (-M) M x = true) (i : Nat) (hi : i < 64) (n : Nat) (hn : n ≤ 8) : -((n : Int) * M) ≤ sm (halfAt x i) n ∧ sm (halfAt x i) n ≤ (n : Int) * M :=
 sm_bound _ M n fun k hk => sgmul_bound _ _ (allB_at h _ (by omega))
theorem halfv_all {x : List Int} {M : Int} (hx : x.length = 64) (h : allB (-M) M x = true) : allB (-(8 * M)) (8 * M) (halfv x) = true := by
 rw [allB_iff]
 intro v hv
 obtain ⟨i, hi, rfl⟩ := List.mem_iff_getElem.1 hv
 rw [halfv_get]
 have := half_bound hx h i (by rw [halfv_len] at hi; exact hi) 8 (by omega)
 omega
theorem out_bound {x : List Int} {M : Int} (hx : x.length = 64) (h : allB (-M) M x = true) (i : Nat) (hi : i < 64) (n : Nat) (hn : n ≤ 8) : -((n : Int) * M) ≤ sm (outAt x i) n ∧ sm (outAt x i) n ≤ (n : Int) * M :=
 sm_bound _ M n fun k hk => sgmul_bound _ _ (allB_at h _ (by omega))
/-- The first p of l, then noughts, 64 in all. -/
def fillB (l : List Int) (p : Nat) : List Int := l.take p ++ (List.replicate 64 (0 : Int)).drop p
theorem fill_len (l : List Int) (hl : l.length = 64) (p : Nat) (hp : p ≤ 64) : (fillB l p).length = 64 := by
 unfold fillB; rw [mix_length _ _ _ (by simp [hl]) (by omega)]; exact hl
theorem fill_set0 (l : List Int) (hl : l.length = 64) (p : Nat) (hp : p < 64) : (fillB l p).set p 0 = fillB l p := by
 have e : fillB l p = l.take p ++ (0 :: (List.replicate 64 (0 : Int)).drop (p + 1)) := by
  unfold fillB
  rw [List.drop_eq_getElem_cons (by simp; omega), List.getElem_replicate]
 rw [e, List.set_append_right _ _ (by simp; omega), show p - (l.take p).length = 0 by simp; omega, List.set_cons_zero]
theorem fill_set1 (l : List Int) (hl : l.length = 64) (p : Nat) (hp : p < 64) : (fillB l p).set p (l[p]'(by omega)) = fillB l (p + 1) := mix_set l _ p (by omega) (by simp; omega)
theorem fill_rd (l : List Int) (hl : l.length = 64) (p : Nat) (hp : p < 64) (y : Int) : rd ((fillB l p).set p y) (p : Int) = y := by
 rw [rd_nat _ p (by rw [List.length_set, fill_len l hl p (by omega)]; exact hp), List.getElem_set_self]
theorem fill_end (l : List Int) (hl : l.length = 64) : fillB l 64 = l := by
 have := mix_end l (List.replicate 64 (0 : Int)) (by simp [hl])
 rw [hl] at this; exact this
theorem idx8 (r v : Nat) (hr : r < 8) (hv : v < 8) : wrap64 (wrap64 (8 * (r : Int)) + (v : Int)) = ((8 * r + v : Nat) : Int) := by
 rw [wrap_id (x := 8 * (r : Int)) (by omega) (by omega), wrap_id (by omega) (by omega)]; omega
theorem sign_fin : ∀ i j : Fin 8, impl_SignOf.f 3 (i.val : Int) (j.val : Int) = some (sg i.val j.val) := by decide +kernel
theorem sign_ev (u k : Nat) (hu : u < 8) (hk : k < 8) : Ev (fun n => impl_SignOf.f n (u : Int) (k : Int)) (sg u k) := Ev.of (fun n => impl_SignOf.mono _ _ _) (sign_fin ⟨u, hu⟩ ⟨k, hk⟩)
theorem ssign_fin : ∀ i j : Fin 8, spec_SignOf.f 12 (i.val : Int) (j.val : Int) = some (sg i.val j.val) := by decide +kernel
theorem ssign_ev (u k : Nat) (hu : u < 8) (hk : k < 8) : Ev (fun n => spec_SignOf.f n (u : Int) (k : Int)) (sg u k) := Ev.of (fun n => spec_SignOf.mono _ _ _) (ssign_fin ⟨u, hu⟩ ⟨k, hk⟩)
theorem sums_l2 (x : List Int) (hx : x.length = 64) (M : Int) (hM : M ≤ 1000000000) (hb : allB (-M) M x = true) (r v : Nat) (hr : r < 8) (hv : v < 8) (R : List Int)
  (hh : Ev (fun k => impl_sums.l1 k x (fillB (halfv x) (8 * r + v + 1)) (r : Int) (r : Int) ((v + 1 : Nat) : Int)) R) :
  ∀ m : Nat, m ≤ 8 → Ev (fun k => impl_sums.l2 k x ((fillB (halfv x) (8 * r + v)).set (8 * r + v) (sm (halfAt x (8 * r + v)) m)) (r : Int) (v : Int) (r : Int) (v : Int) (m : Int)) R := by
 have hl := halfv_len x
 refine down 8 ?_ ?_
 ·refine Ev.step (fun k => ?_) hh
  simp only [impl_sums.l2]
  rw [if_neg (by omega), ← halfv_get x (8 * r + v) (by omega), fill_set1 _ hl _ (by omega), wrap_id (by omega) (by omega), cast1]
 ·intro m hm h'
  have b1 := half_bound hx hb (8 * r + v) (by omega) m (by omega)
  have b2 : -M ≤ sg v m * rd x ((8 * r + m : Nat) : Int) ∧ sg v m * rd x ((8 * r + m : Nat) : Int) ≤ M := sgmul_bound _ _ (allB_at hb _ (by omega))
  have b3 : (m : Int) * M ≤ 8 * 1000000000 ∧ 0 ≤ (m : Int) * M := by
   have h0 : 0 ≤ M := by omega
   exact ⟨Int.mul_le_mul (by omega) hM h0 (by omega), Int.mul_nonneg (by omega) h0⟩
  have e : sm (halfAt x (8 * r + v)) (m + 1) = sm (halfAt x (8 * r + v)) m + sg v m * rd x ((8 * r + m : Nat) : Int) := by
   simp only [sm, halfAt]
   rw [show (8 * r + v) % 8 = v by omega, show (8 * r + v) / 8 = r by omega]
  refine Ev.step (f := fun k => (impl_SignOf.f k (v : Int) (m : Int)).bind fun t => impl_sums.l2 k x (((fillB (halfv x) (8 * r + v)).set (8 * r + v) (sm (halfAt x (8 * r + v)) m)).set (8 * r + v) (wrap64 (sm (halfAt x (8 * r + v)) m + wrap64 (t * rd x ((8 * r + m : Nat) : Int))))) (r : Int) (v : Int) (r : Int) (v : Int) ((m + 1 : Nat) : Int)) (fun k => ?_) (Ev.bind (sign_ev v m hv hm) ?_)
  ·simp only [impl_sums.l2]
   rw [if_pos (by omega), idx8 r v hr hv, idx8 r m hr hm, if_pos (by omega), if_pos (by rw [List.length_set, fill_len _ hl _ (by omega)]; omega), fill_rd _ hl _ (by omega), wrap_id (x := (m : Int) + 1) (by omega) (by omega), cast1]
   congr 1
   funext t
   rw [if_pos (by omega), if_pos (by omega), Int.toNat_natCast]
  ·rw [List.set_set, wrap_id (x := sg v m * _) (by omega) (by omega), wrap_id (by omega) (by omega), ← e]
   exact h'
theorem sums_l1 (x : List Int) (hx : x.length = 64) (M : Int) (hM : M ≤ 1000000000) (hb : allB (-M) M x = true) (r : Nat) (hr : r < 8) (R : List Int)
  (hh : Ev (fun k => impl_sums.l0 k x (fillB (halfv x) (8 * (r + 1))) ((r + 1 : Nat) : Int)) R) :
  ∀ v : Nat, v ≤ 8 → Ev (fun k => impl_sums.l1 k x (fillB (halfv x) (8 * r + v)) (r : Int) (r : Int) (v : Int)) R := by
 refine down 8 ?_ ?_
 ·refine Ev.step (fun k => ?_) hh
  simp only [impl_sums.l1]
  rw [if_neg (by omega), wrap_id (by omega) (by omega), cast1]; rfl
 ·intro v hv h'
  refine Ev.step (fun k => ?_) (sums_l2 x hx M hM hb r v hr hv R h' 0 (by omega))
  simp only [impl_sums.l1]
  rw [if_pos (by omega), sm, fill_set0 _ (halfv_len x) _ (by omega)]; rfl
theorem sums_l0 (x : List Int) (hx : x.length = 64) (M : Int) (hM : M ≤ 1000000000) (hb : allB (-M) M x = true) (R : List Int)
  (hh : Ev (fun k => impl_sums.l3 k (halfv x) (List.replicate 64 0) 0) R) :
  ∀ r : Nat, r ≤ 8 → Ev (fun k => impl_sums.l0 k x (fillB (halfv x) (8 * r)) (r : Int)) R := by
 refine down 8 ?_ ?_
 ·refine Ev.step (fun k => ?_) hh
  simp only [impl_sums.l0]
  rw [if_neg (by omega), if_pos (by decide), fill_end _ (halfv_len x)]
 ·intro r hr h'
  refine Ev.step (fun k => ?_) (sums_l1 x hx M hM hb r hr R h' 0 (by omega))
  simp only [impl_sums.l0]
  rw [if_pos (by omega)]; rfl
theorem sums_l5 (x : List Int) (hx : x.length = 64) (M : Int) (hM : M ≤ 1000000000) (hb : allB (-M) M x = true) (r v : Nat) (hr : r < 8) (hv : v < 8) (R : List Int)
  (hh : Ev (fun k => impl_sums.l4 k x (fillB (sums2 x) (8 * r + v + 1)) (r : Int) (r : Int) ((v + 1 : Nat) : Int)) R) :
  ∀ m : Nat, m ≤ 8 → Ev (fun k => impl_sums.l5 k x ((fillB (sums2 x) (8 * r + v)).set (8 * r + v) (sm (outAt x (8 * r + v)) m)) (r : Int) (v : Int) (r : Int) (v : Int) (m : Int)) R := by
 have hl := sums2_len x
 refine down 8 ?_ ?_
 ·refine Ev.step (fun k => ?_) hh
  simp only [impl_sums.l5]
  rw [if_neg (by omega), ← sums2_get x (8 * r + v) (by omega), fill_set1 _ hl _ (by omega), wrap_id (by omega) (by omega), cast1]
 ·intro m hm h'
  have b1 := out_bound hx hb (8 * r + v) (by omega) m (by omega)
  have b2 : -M ≤ sg r m * rd x ((8 * m + v : Nat) : Int) ∧ sg r m * rd x ((8 * m + v : Nat) : Int) ≤ M := sgmul_bound _ _ (allB_at hb _ (by omega))
  have b3 : (m : Int) * M ≤ 8 * 1000000000 ∧ 0 ≤ (m : Int) * M := by
   have h0 : 0 ≤ M := by omega
   exact ⟨Int.mul_le_mul (by omega) hM h0 (by omega), Int.mul_nonneg (by omega) h0⟩
  have e : sm (outAt x (8 * r + v)) (m + 1) = sm (outAt x (8 * r + v)) m + sg r m * rd x ((8 * m + v : Nat) : Int) := by
   simp only [sm, outAt]
   rw [show (8 * r + v) % 8 = v by omega, show (8 * r + v) / 8 = r by omega]
  refine Ev.step (f := fun k => (impl_SignOf.f k (r : Int) (m : Int)).bind fun t => impl_sums.l5 k x (((fillB (sums2 x) (8 * r + v)).set (8 * r + v) (sm (outAt x (8 * r + v)) m)).set (8 * r + v) (wrap64 (sm (outAt x (8 * r + v)) m + wrap64 (t * rd x ((8 * m + v : Nat) : Int))))) (r : Int) (v : Int) (r : Int) (v : Int) ((m + 1 : Nat) : Int)) (fun k => ?_) (Ev.bind (sign_ev r m hr hm) ?_)
  ·simp only [impl_sums.l5]
   rw [if_pos (by omega), idx8 r v hr hv, idx8 m v hm hv, if_pos (by omega), if_pos (by rw [List.length_set, fill_len _ hl _ (by omega)]; omega), fill_rd _ hl _ (by omega), wrap_id (x := (m : Int) + 1) (by omega) (by omega), cast1]
   congr 1
   funext t
   rw [if_pos (by omega), if_pos (by omega), Int.toNat_natCast]
  ·rw [List.set_set, wrap_id (x := sg r m * _) (by omega) (by omega), wrap_id (by omega) (by omega), ← e]
   exact h'
theorem sums_l4 (x : List Int) (hx : x.length = 64) (M : Int) (hM : M ≤ 1000000000) (hb : allB (-M) M x = true) (r : Nat) (hr : r < 8) (R : List Int)
  (hh : Ev (fun k => impl_sums.l3 k x (fillB (sums2 x) (8 * (r + 1))) ((r + 1 : Nat) : Int)) R) :
  ∀ v : Nat, v ≤ 8 → Ev (fun k => impl_sums.l4 k x (fillB (sums2 x) (8 * r + v)) (r : Int) (r : Int) (v : Int)) R := by
 refine down 8 ?_ ?_
 ·refine Ev.step (fun k => ?_) hh
  simp only [impl_sums.l4]
  rw [if_neg (by omega), wrap_id (by omega) (by omega), cast1]; rfl
 ·intro v hv h'
  refine Ev.step (fun k => ?_) (sums_l5 x hx M hM hb r v hr hv R h' 0 (by omega))
  simp only [impl_sums.l4]
  rw [if_pos (by omega), sm, fill_set0 _ (sums2_len x) _ (by omega)]; rfl
theorem sums_l3 (x : List Int) (hx : x.length = 64) (M : Int) (hM : M ≤ 1000000000) (hb : allB (-M) M x = true) :
  ∀ r : Nat, r ≤ 8 → Ev (fun k => impl_sums.l3 k x (fillB (sums2 x) (8 * r)) (r : Int)) (sums2 x) := by
 refine down 8 ?_ ?_
 ·refine Ev.step (f := fun _ => some (sums2 x)) (fun k => ?_) (Ev.now _)
  simp only [impl_sums.l3]
  rw [if_neg (by omega), fill_end _ (sums2_len x)]
 ·intro r hr h'
  refine Ev.step (fun k => ?_) (sums_l4 x hx M hM hb r hr _ h' 0 (by omega))
  simp only [impl_sums.l3]
  rw [if_pos (by omega)]; rfl
theorem fill_zero (l : List Int) : fillB l 0 = List.replicate 64 0 := by simp [fillB]
theorem sums_ev (x : List Int) (hx : x.length = 64) (M : Int) (hM : M ≤ 100000000) (hb : allB (-M) M x = true) : Ev (fun k => impl_sums.f k x) (sumsv x) := by
 unfold impl_sums.f
 have h2 := sums_l3 (halfv x) (halfv_len x) (8 * M) (by omega) (halfv_all hx hb) 0 (by omega)
 rw [Nat.mul_zero, fill_zero] at h2
 have h1 := sums_l0 x hx M (by omega) hb _ h2 0 (by omega)
 rw [Nat.mul_zero, fill_zero] at h1
 refine Ev.congr (fun k => ?_) h1
 rw [if_pos (by decide)]; rfl
theorem srow_ev (x : List Int) (hx : x.length = 64) (M : Int) (hM : M ≤ 1000000000) (hb : allB (-M) M x = true) (r v : Nat) (hr : r < 8) (hv : v < 8) : Ev (fun k => spec_l10Row.f k x (r : Int) (v : Int)) (sm (halfAt x (8 * r + v)) 8) := by
 have H : ∀ m : Nat, m ≤ 8 → Ev (fun k => spec_l10Row.l0 k x (r : Int) (v : Int) (sm (halfAt x (8 * r + v)) m) (m : Int)) (sm (halfAt x (8 * r + v)) 8) := by
  refine down 8 ?_ ?_
  ·refine Ev.step (f := fun _ => some (sm (halfAt x (8 * r + v)) 8)) (fun k => ?_) (Ev.now _)
   simp only [spec_l10Row.l0]
   rw [if_neg (by omega)]
  ·intro m hm h'
   have b1 := half_bound hx hb (8 * r + v) (by omega) m (by omega)
   have b2 : -M ≤ sg v m * rd x ((8 * r + m : Nat) : Int) ∧ sg v m * rd x ((8 * r + m : Nat) : Int) ≤ M := sgmul_bound _ _ (allB_at hb _ (by omega))
   have b3 : (m : Int) * M ≤ 8 * 1000000000 ∧ 0 ≤ (m : Int) * M := by
    have h0 : 0 ≤ M := by omega
    exact ⟨Int.mul_le_mul (by omega) hM h0 (by omega), Int.mul_nonneg (by omega) h0⟩
   have e : sm (halfAt x (8 * r + v)) (m + 1) = sm (halfAt x (8 * r + v)) m + sg v m * rd x ((8 * r + m : Nat) : Int) := by
    simp only [sm, halfAt]
    rw [show (8 * r + v) % 8 = v by omega, show (8 * r + v) / 8 = r by omega]
   refine Ev.step (f := fun k => (spec_SignOf.f k (v : Int) (m : Int)).bind fun t => spec_l10Row.l0 k x (r : Int) (v : Int) (wrap64 (sm (halfAt x (8 * r + v)) m + wrap64 (rd x ((8 * r + m : Nat) : Int) * t))) ((m + 1 : Nat) : Int)) (fun k => ?_) (Ev.bind (ssign_ev v m hv hm) ?_)
   ·simp only [spec_l10Row.l0]
    rw [if_pos (by omega), idx8 r m hr hm, if_pos (by omega), if_pos (by omega), wrap_id (x := (m : Int) + 1) (by omega) (by omega), cast1]
   ·rw [Int.mul_comm (rd x _), wrap_id (x := sg v m * _) (by omega) (by omega), wrap_id (by omega) (by omega), ← e]
    exact h'
 exact H 0 (by omega)
theorem ssums_l1 (x : List Int) (hx : x.length = 64) (M : Int) (hM : M ≤ 1000000000) (hb : allB (-M) M x = true) (r : Nat) (hr : r < 8) (R : List Int)
  (hh : Ev (fun k => spec_l10Sums.l0 k x ((halfv x).take (8 * (r + 1))) ((r + 1 : Nat) : Int)) R) :
  ∀ v : Nat, v ≤ 8 → Ev (fun k => spec_l10Sums.l1 k x ((halfv x).take (8 * r + v)) (r : Int) (v : Int)) R := by
 have hl := halfv_len x
 refine down 8 ?_ ?_
 ·refine Ev.step (fun k => ?_) hh
  simp only [spec_l10Sums.l1]
  rw [if_neg (by omega), wrap_id (by omega) (by omega), cast1]; rfl
 ·intro v hv h'
  have hr' := srow_ev x hx M hM hb r v hr hv
  rw [← halfv_get x (8 * r + v) (by omega)] at hr'
  refine Ev.step (f := fun k => (spec_l10Row.f k x (r : Int) (v : Int)).bind fun t => (if ((halfv x).take (8 * r + v)).length < 17592186044416 then (spec_l10Sums.l1 k x ((halfv x).take (8 * r + v) ++ [t]) (r : Int) ((v + 1 : Nat) : Int)) else (none))) (fun k => ?_) (Ev.bind hr' ?_)
  ·simp only [spec_l10Sums.l1]
   rw [if_pos (by omega), wrap_id (x := (v : Int) + 1) (by omega) (by omega), cast1]
  ·refine Ev.congr (fun k => ?_) h'
   rw [if_pos (by simp; omega), ← List.take_succ_eq_append_getElem (by omega)]; rfl
theorem ssums_l0 (x : List Int) (hx : x.length = 64) (M : Int) (hM : M ≤ 1000000000) (hb : allB (-M) M x = true) (R : List Int)
  (hh : Ev (fun k => spec_l10Sums.l2 k (halfv x) [] 0) R) :
  ∀ r : Nat, r ≤ 8 → Ev (fun k => spec_l10Sums.l0 k x ((halfv x).take (8 * r)) (r : Int)) R := by
 have hl := halfv_len x
 refine down 8 ?_ ?_
 ·refine Ev.step (fun k => ?_) hh
  simp only [spec_l10Sums.l0]
  rw [if_neg (by omega), List.take_of_length_le (by omega)]
 ·intro r hr h'
  refine Ev.step (fun k => ?_) (ssums_l1 x hx M hM hb r hr R h' 0 (by omega))
  simp only [spec_l10Sums.l0]
  rw [if_pos (by omega)]; rfl
theorem ssums_l4 (x : List Int) (hx : x.length = 64) (M : Int) (hM : M ≤ 1000000000) (hb : allB (-M) M x = true) (r v : Nat) (hr : r < 8) (hv : v < 8) (R : List Int)
  (hh : Ev (fun k => spec_l10Sums.l3 k x ((sums2 x).take (8 * r + v + 1)) (r : Int) ((v + 1 : Nat) : Int)) R) :
  ∀ m : Nat, m ≤ 8 → Ev (fun k => spec_l10Sums.l4 k x ((sums2 x).take (8 * r + v)) (r : Int) (v : Int) (sm (outAt x (8 * r + v)) m) (m : Int)) R := by
 have hl := sums2_len x
 refine down 8 ?_ ?_
 ·refine Ev.step (fun k => ?_) hh
  simp only [spec_l10Sums.l4]
  rw [if_neg (by omega), if_pos (by simp; omega), ← sums2_get x (8 * r + v) (by omega), ← List.take_succ_eq_append_getElem (by omega), wrap_id (by omega) (by omega), cast1]
 ·intro m hm h'
  have b1 := out_bound hx hb (8 * r + v) (by omega) m (by omega)
  have b2 : -M ≤ sg r m * rd x ((8 * m + v : Nat) : Int) ∧ sg r m * rd x ((8 * m + v : Nat) : Int) ≤ M := sgmul_bound _ _ (allB_at hb _ (by omega))
  have b3 : (m : Int) * M ≤ 8 * 1000000000 ∧ 0 ≤ (m : Int) * M := by
   have h0 : 0 ≤ M := by omega
   exact ⟨Int.mul_le_mul (by omega) hM h0 (by omega), Int.mul_nonneg (by omega) h0⟩
  have e : sm (outAt x (8 * r + v)) (m + 1) = sm (outAt x (8 * r + v)) m + sg r m * rd x ((8 * m + v : Nat) : Int) := by
   simp only [sm, outAt]
   rw [show (8 * r + v) % 8 = v by omega, show (8 * r + v) / 8 = r by omega]
  refine Ev.step (f := fun k => (spec_SignOf.f k (r : Int) (m : Int)).bind fun t => spec_l10Sums.l4 k x ((sums2 x).take (8 * r + v)) (r : Int) (v : Int) (wrap64 (sm (outAt x (8 * r + v)) m + wrap64 (t * rd x ((8 * m + v : Nat) : Int)))) ((m + 1 : Nat) : Int)) (fun k => ?_) (Ev.bind (ssign_ev r m hr hm) ?_)
  ·simp only [spec_l10Sums.l4]
   rw [if_pos (by omega), idx8 m v hm hv, wrap_id (x := (m : Int) + 1) (by omega) (by omega), cast1]
   congr 1
   funext t
   rw [if_pos (by omega), if_pos (by omega)]
  ·rw [wrap_id (x := sg r m * _) (by omega) (by omega), wrap_id (by omega) (by omega), ← e]
   exact h'
theorem ssums_l3 (x : List Int) (hx : x.length = 64) (M : Int) (hM : M ≤ 1000000000) (hb : allB (-M) M x = true) (r : Nat) (hr : r < 8) (R : List Int)
  (hh : Ev (fun k => spec_l10Sums.l2 k x ((sums2 x).take (8 * (r + 1))) ((r + 1 : Nat) : Int)) R) :
  ∀ v : Nat, v ≤ 8 → Ev (fun k => spec_l10Sums.l3 k x ((sums2 x).take (8 * r + v)) (r : Int) (v : Int)) R := by
 refine down 8 ?_ ?_
 ·refine Ev.step (fun k => ?_) hh
  simp only [spec_l10Sums.l3]
  rw [if_neg (by omega), wrap_id (by omega) (by omega), cast1]; rfl
 ·intro v hv h'
  refine Ev.step (fun k => ?_) (ssums_l4 x hx M hM hb r v hr hv R h' 0 (by omega))
  simp only [spec_l10Sums.l3]
  rw [if_pos (by omega)]; rfl
theorem ssums_l2 (x : List Int) (hx : x.length = 64) (M : Int) (hM : M ≤ 1000000000) (hb : allB (-M) M x = true) :
  ∀ r : Nat, r ≤ 8 → Ev (fun k => spec_l10Sums.l2 k x ((sums2 x).take (8 * r)) (r : Int)) (sums2 x) := by
 refine down 8 ?_ ?_
 ·refine Ev.step (f := fun _ => some (sums2 x)) (fun k => ?_) (Ev.now _)
  simp only [spec_l10Sums.l2]
  rw [if_neg (by omega), List.take_of_length_le (by rw [sums2_len]; omega)]
 ·intro r hr h'
  refine Ev.step (fun k => ?_) (ssums_l3 x hx M hM hb r hr _ h' 0 (by omega))
  simp only [spec_l10Sums.l2]
  rw [if_pos (by omega)]; rfl
theorem ssums_ev (x : List Int) (hx : x.length = 64) (M : Int) (hM : M ≤ 100000000) (hb : allB (-M) M x = true) : Ev (fun k => spec_l10Sums.f k x) (sumsv x) := by
 have h2 := ssums_l2 (halfv x) (halfv_len x) (8 * M) (by omega) (halfv_all hx hb) 0 (by omega)
 have h1 := ssums_l0 x hx M (by omega) hb _ h2 0 (by omega)
 exact h1
def EiOk (x : List Int) : Prop := x.length = 64 ∧ allB (-1000) 1000 x = true
instance (x : List Int) : Decidable (EiOk x) := by unfold EiOk; infer_instance
theorem len_dece (l : List Int) (n : Nat) (m : Int) (h : m = (n : Int)) : decide ((l.length : Int) = m) = decide (l.length = n) := by rw [decide_eq_decide]; omega
theorem and_falsee {b : Bool} {p : Prop} [Decidable p] (h : ¬ (p ∧ b = true)) : (decide p && b) = false := by
 rw [Bool.eq_false_iff]; intro h'; rw [Bool.and_eq_true, decide_eq_true_eq] at h'; exact h h'
theorem eight_ev (x : List Int) (hx : x.length ≤ 17592186043904) : Ev (fun k => impl_Eight.f k x) (if EiOk x then sumsv x else []) := by
 unfold impl_Eight.f
 refine Ev.bind (areIn_ev x 64 (-1000) 1000 hx) ?_
 rw [len_dece x 64 64 rfl]
 by_cases c : EiOk x
 ·rw [if_pos c, decide_eq_true c.1, c.2]
  simp only [Bool.and_self, if_true]
  exact Ev.bind (sums_ev x c.1 1000 (by omega) c.2) (Ev.now _)
 ·rw [if_neg c, and_falsee c]
  simp only [Bool.false_eq_true, if_false]; exact Ev.now _
theorem seight_ev (x : List Int) (hx : x.length ≤ 17592186043904) : Ev (fun k => spec_Eight.f k x) (if EiOk x then sumsv x else []) := by
 unfold spec_Eight.f
 refine Ev.bind (all_ev x 64 1000 hx (by omega) (by omega)) ?_
 rw [len_dece x 64 64 rfl]
 by_cases c : EiOk x
 ·rw [if_pos c, decide_eq_true c.1, c.2]
  simp only [Bool.and_self, if_true]
  exact Ev.bind (ssums_ev x c.1 1000 (by omega) c.2) (Ev.now _)
 ·rw [if_neg c, and_falsee c]
  simp only [Bool.false_eq_true, if_false]; exact Ev.now _
/-- The kind of a place of sixteen. -/
def kindN (a : Int) : Int := if 0 ≤ a ∧ a ≤ 15 then (if a / 4 % 2 = 0 ∧ a % 4 % 2 = 0 then 0 else if a / 4 % 2 = 1 ∧ a % 4 % 2 = 1 then 1 else 2) else -1
theorem kindN_in {a : Int} (h : 0 ≤ a ∧ a ≤ 15) : 0 ≤ kindN a ∧ kindN a < 3 := by
 unfold kindN
 rw [if_pos h]
 by_cases c1 : a / 4 % 2 = 0 ∧ a % 4 % 2 = 0
 ·rw [if_pos c1]; omega
 ·rw [if_neg c1]
  by_cases c2 : a / 4 % 2 = 1 ∧ a % 4 % 2 = 1
  ·rw [if_pos c2]; omega
  ·rw [if_neg c2]; omega
theorem kind_parts {a : Int} (h : 0 ≤ a ∧ a ≤ 15) : Int.tmod (wrap64 (Int.tdiv a 4)) 2 = a / 4 % 2 ∧ Int.tmod (Int.tmod a 4) 2 = a % 4 % 2 := by
 rw [Int.tdiv_eq_ediv_of_nonneg h.1, wrap_id (by omega) (by omega), Int.tmod_eq_emod_of_nonneg (a := a / 4) (by omega), Int.tmod_eq_emod_of_nonneg (a := a) h.1, Int.tmod_eq_emod_of_nonneg (a := a % 4) (by omega)]
 exact ⟨rfl, rfl⟩
theorem kind_ev (a : Int) : Ev (fun k => impl_KindOf.f k a) (kindN a) := by
 unfold impl_KindOf.f kindN
 simp only [within_eq, Option.bind_some]
 by_cases h : 0 ≤ a ∧ a ≤ 15
 ·obtain ⟨e1, e2⟩ := kind_parts h
  simp only [decide_eq_true h, if_true, h, and_self, e1, e2]
  have hr : a / 4 % 2 = 0 ∨ a / 4 % 2 = 1 := by omega
  have hc : a % 4 % 2 = 0 ∨ a % 4 % 2 = 1 := by omega
  generalize a / 4 % 2 = x at hr
  generalize a % 4 % 2 = y at hc
  rcases hr with rfl | rfl <;> rcases hc with rfl | rfl <;> exact Ev.step (fun k => by simp only [impl_KindOf.j0]; rfl) (Ev.now _)
 ·simp only [decide_eq_false h, h, if_false, Bool.false_eq_true]
  exact Ev.now _
theorem skind_ev (a : Int) : Ev (fun k => spec_KindOf.f k a) (kindN a) := by
 unfold spec_KindOf.f kindN
 simp only [in_eq, Option.bind_some]
 by_cases h : 0 ≤ a ∧ a ≤ 15
 ·obtain ⟨e1, e2⟩ := kind_parts h
  simp only [decide_eq_true h, if_true, h, and_self, e1, e2]
  have hr : a / 4 % 2 = 0 ∨ a / 4 % 2 = 1 := by omega
  have hc : a % 4 % 2 = 0 ∨ a % 4 % 2 = 1 := by omega
  generalize a / 4 % 2 = x at hr
  generalize a % 4 % 2 = y at hc
  rcases hr with rfl | rfl <;> rcases hc with rfl | rfl <;> exact Ev.step (fun k => by simp only [spec_KindOf.j0]; rfl) (Ev.now _)
 ·simp only [decide_eq_false h, h, if_false, Bool.false_eq_true]
  exact Ev.now _
def shareN (q p : Int) : Int := if (0 ≤ q ∧ q ≤ 40) ∧ 0 ≤ p ∧ p ≤ 15 then shareT (q % 6) (kindN p) else 0
theorem share_ev (q p : Int) : Ev (fun k => impl_ShareOf.f k q p) (shareN q p) := by
 unfold impl_ShareOf.f shareN
 simp only [within_eq, Option.bind_some]
 by_cases h1 : 0 ≤ q ∧ q ≤ 40
 ·by_cases h2 : 0 ≤ p ∧ p ≤ 15
  ·simp only [decide_eq_true h1, decide_eq_true h2, if_true, h1, h2, and_self]
   refine Ev.bind (kind_ev p) ?_
   rw [if_pos (kindN_in h2), Int.tmod_eq_emod_of_nonneg h1.1]
   exact Ev.now _
  ·simp only [decide_eq_true h1, decide_eq_false h2, if_true, h2, and_false, if_false, Bool.false_eq_true]
   exact Ev.now _
 ·simp only [decide_eq_false h1, if_false, h1, false_and, Bool.false_eq_true]
  exact Ev.now _
theorem pick_val (n a b c : Int) : spec_l08Pick.f n a b c = some (if n = 0 then a else if n = 1 then b else c) := by
 unfold spec_l08Pick.f
 by_cases c0 : n = 0
 ·rw [if_pos c0, if_pos c0]
 ·rw [if_neg c0, if_neg c0]
  by_cases c1 : n = 1
  ·rw [if_pos c1, if_pos c1]
  ·rw [if_neg c1, if_neg c1]
theorem sshare_ev (q p : Int) : Ev (fun k => spec_ShareOf.f k q p) (shareN q p) := by
 unfold spec_ShareOf.f shareN
 refine Ev.bind (skind_ev p) ?_
 simp only [in_eq, Option.bind_some]
 have hbad : ∀ x y : Int, Ev (fun k => spec_ShareOf.j0 k x y true) 0 := fun x y => Ev.step (f := fun _ => some 0) (fun k => by simp only [spec_ShareOf.j0]; rfl) (Ev.now _)
 by_cases h1 : 0 ≤ q ∧ q ≤ 40
 ·by_cases h2 : 0 ≤ p ∧ p ≤ 15
  ·have hk := kindN_in h2
   have hd : decide (kindN p < 0) = false := decide_eq_false (by omega)
   simp only [if_true, h1, h2, and_self, decide_true, hd]
   refine Ev.step (f := fun _ => some (shareT (q % 6) (kindN p))) (fun k => ?_) (Ev.now _)
   simp only [spec_ShareOf.j0, Bool.false_eq_true, if_false, pick_val, Option.bind_some, Int.tmod_eq_emod_of_nonneg h1.1]
   unfold shareT
   generalize q % 6 = m
   by_cases m0 : m = 0
   ·simp only [m0, if_true]
   ·by_cases m1 : m = 1
    ·simp only [m0, m1, if_true, if_false]; rfl
    ·by_cases m2 : m = 2
     ·simp only [m0, m1, m2, if_true, if_false]; rfl
     ·by_cases m3 : m = 3
      ·simp only [m0, m1, m2, m3, if_true, if_false]; rfl
      ·by_cases m4 : m = 4
       ·simp only [m0, m1, m2, m3, m4, if_true, if_false]; rfl
       ·simp only [m0, m1, m2, m3, m4, if_false]
  ·have hk : kindN p < 0 := by unfold kindN; rw [if_neg h2]; omega
   simp only [h1, and_self, decide_true, if_true, h2, and_false, if_false, decide_eq_true hk]
   exact hbad _ _
 ·simp only [decide_eq_false h1, if_false, h1, false_and, Bool.false_eq_true]
  exact hbad _ _
theorem pow_le_nat {a b : Nat} (h : a ≤ b) : (2 : Int) ^ a ≤ 2 ^ b := by
 have := Nat.pow_le_pow_right (show 0 < 2 by omega) h
 exact_mod_cast this
theorem pow_ge1 (a : Nat) : (1 : Int) ≤ 2 ^ a := Int.pow_pos (by omega)
theorem shl_val {x e : Int} (hx : 0 ≤ x ∧ x ≤ 30000) (he : 0 ≤ e ∧ e ≤ 25) : shl .i64 x e = x * 2 ^ e.toNat := by
 unfold shl
 have hm : min e.toNat IntKind.i64.bits = e.toNat := Nat.min_eq_left (by show e.toNat ≤ 64; omega)
 rw [hm, i64_w]
 have hp := pow_le_nat (a := e.toNat) (b := 25) (by omega)
 have h1 := pow_ge1 e.toNat
 have hb : x * 2 ^ e.toNat ≤ 30000 * 2 ^ 25 := Int.mul_le_mul hx.2 hp (by omega) (by omega)
 have h0 : 0 ≤ x * 2 ^ e.toNat := Int.mul_nonneg hx.1 (by omega)
 rw [wrap_id (by omega) (by omega)]
def absN (w : Int) : Int := if w < 0 then -w else w
def sgnN (w n : Int) : Int := if w < 0 then -n else n
def smallP (q : Int) : Int := 2 ^ (15 + q / 6).toNat
def smallQ (a q p : Int) : Int := (a * shareN q p + smallP q / 3) / smallP q
def smallN (w q p : Int) : Int := if (-20000 ≤ w ∧ w ≤ 20000) ∧ (0 ≤ q ∧ q ≤ 40) ∧ 0 ≤ p ∧ p ≤ 15 then sgnN w (smallQ (absN w) q p) else 0
theorem shareT_in (q k : Int) : 2893 ≤ shareT q k ∧ shareT q k ≤ 13107 := by
 unfold shareT
 repeat' split
 all_goals omega
theorem shareN_in {q p : Int} (h1 : 0 ≤ q ∧ q ≤ 40) (h2 : 0 ≤ p ∧ p ≤ 15) : 2893 ≤ shareN q p ∧ shareN q p ≤ 13107 := by
 unfold shareN
 rw [if_pos ⟨h1, h2⟩]
 exact shareT_in _ _
theorem absN_in {w : Int} (h : -20000 ≤ w ∧ w ≤ 20000) : 0 ≤ absN w ∧ absN w ≤ 20000 := by
 unfold absN
 split <;> omega
theorem smallP_in {q : Int} (h : 0 ≤ q ∧ q ≤ 40) : 32768 ≤ smallP q ∧ smallP q ≤ 2097152 := by
 unfold smallP
 have h1 := pow_le_nat (a := 15) (b := (15 + q / 6).toNat) (by omega)
 have h2 := pow_le_nat (a := (15 + q / 6).toNat) (b := 21) (by omega)
 exact ⟨by omega, by omega⟩
theorem smallmul_in {a t : Int} (ha : 0 ≤ a ∧ a ≤ 20000) (ht : 0 ≤ t ∧ t ≤ 13107) : 0 ≤ a * t ∧ a * t ≤ 262140000 := by
 have h := Int.mul_le_mul ha.2 ht.2 ht.1 (by omega : (0 : Int) ≤ 20000)
 exact ⟨Int.mul_nonneg ha.1 ht.1, by omega⟩
theorem quot_in {x n : Int} (h0 : 0 ≤ x) (h1 : 1 ≤ n) : 0 ≤ x / n ∧ x / n ≤ x := ⟨Int.ediv_nonneg h0 (by omega), Int.ediv_le_self n h0⟩
/-- The quotient as both sides reckon it. -/
theorem small_steps {a q p : Int} (ha : 0 ≤ a ∧ a ≤ 20000) (h1 : 0 ≤ q ∧ q ≤ 40) (h2 : 0 ≤ p ∧ p ≤ 15) :
  wrap64 (Int.tdiv (wrap64 ((wrap64 (a * shareN q p)) + (wrap64 (Int.tdiv (smallP q) 3)))) (smallP q)) = smallQ a q p ∧ 0 ≤ smallQ a q p ∧ smallQ a q p ≤ 300000000 := by
 have hn := smallP_in h1
 have ht := shareN_in h1 h2
 have hm := smallmul_in ha (t := shareN q p) (by omega)
 unfold smallQ
 generalize smallP q = n at hn ⊢
 generalize a * shareN q p = m at hm ⊢
 have hq := quot_in (x := m + n / 3) (n := n) (by omega) (by omega)
 rw [Int.tdiv_eq_ediv_of_nonneg (a := n) (by omega), wrap_id (x := m) (by omega) (by omega), wrap_id (x := n / 3) (by omega) (by omega), wrap_id (x := m + n / 3) (by omega) (by omega), Int.tdiv_eq_ediv_of_nonneg (a := m + n / 3) (by omega)]
 have hb : m + n / 3 ≤ 300000000 := by omega
 generalize (m + n / 3) / n = z at hq ⊢
 exact ⟨wrap_id (by omega) (by omega), hq.1, by omega⟩
theorem exp15 {q : Int} (h : 0 ≤ q ∧ q ≤ 40) : wrap64 (15 + wrap64 (Int.tdiv q 6)) = 15 + q / 6 := by
 rw [Int.tdiv_eq_ediv_of_nonneg h.1, wrap_id (x := q / 6) (by omega) (by omega), wrap_id (by omega) (by omega)]
theorem shl15 {q : Int} (h : 0 ≤ q ∧ q ≤ 40) : shl .i64 1 (15 + q / 6) = smallP q := by
 rw [shl_val (by omega) (by omega), Int.one_mul]
 rfl
theorem size_val {w : Int} (h : -20000 ≤ w ∧ w ≤ 20000) : mx w (wrap64 (-w)) = absN w := by
 rw [wrap_id (by omega) (by omega)]
 unfold mx absN
 by_cases c : w < 0
 ·rw [if_pos c, if_pos (by omega)]
 ·rw [if_neg c, if_neg (by omega)]
theorem small_ev (w q p : Int) : Ev (fun k => impl_SmallLevel.f k w q p) (smallN w q p) := by
 have hbad : ∀ x y z : Int, Ev (fun k => impl_SmallLevel.j0 k x y z true) 0 := fun x y z => Ev.step (f := fun _ => some 0) (fun k => by simp only [impl_SmallLevel.j0]; rfl) (Ev.now _)
 unfold impl_SmallLevel.f smallN
 simp only [within_eq, Option.bind_some]
 by_cases h0 : -20000 ≤ w ∧ w ≤ 20000
 ·by_cases h1 : 0 ≤ q ∧ q ≤ 40
  ·by_cases h2 : 0 ≤ p ∧ p ≤ 15
   ·simp only [h0, h1, h2, and_self, decide_true, if_true, Bool.not_true]
    have hs := share_ev q p
    obtain ⟨e1, e2, e3⟩ := small_steps (absN_in h0) h1 h2
    have hn := smallP_in h1
    have g : (0 : Int) ≤ 15 + q / 6 := by omega
    have n0 : ¬ smallP q = 0 := by omega
    refine Ev.step (fun k => by simp only [impl_SmallLevel.j0, Bool.false_eq_true, if_false, exp15 h1, g, if_true, impl_size.f, Option.bind_some, size_val h0, shl15 h1, n0]; rfl) (Ev.bind hs ?_)
    simp only [e1, impl_signed.f]
    unfold sgnN
    by_cases c : w < 0
    ·simp only [c, if_true, Option.bind_some]
     rw [wrap_id (by omega) (by omega)]
     exact Ev.now _
    ·simp only [c, if_false, Option.bind_some]
     exact Ev.now _
   ·simp only [h0, h1, h2, and_self, and_false, decide_true, decide_false, if_true, if_false, Bool.not_false]
    exact hbad _ _ _
  ·simp only [h0, h1, and_self, false_and, and_false, decide_true, decide_false, if_true, if_false, Bool.false_eq_true]
   exact hbad _ _ _
 ·simp only [h0, false_and, decide_false, if_false, Bool.false_eq_true]
  exact hbad _ _ _
theorem ssmall_ev (w q p : Int) : Ev (fun k => spec_SmallLevel.f k w q p) (smallN w q p) := by
 have hbad : ∀ x y z : Int, Ev (fun k => spec_SmallLevel.j0 k x y z true) 0 := fun x y z => Ev.step (f := fun _ => some 0) (fun k => by simp only [spec_SmallLevel.j0]; rfl) (Ev.now _)
 unfold spec_SmallLevel.f smallN
 simp only [in_eq, Option.bind_some]
 by_cases h0 : -20000 ≤ w ∧ w ≤ 20000
 ·by_cases h1 : 0 ≤ q ∧ q ≤ 40
  ·by_cases h2 : 0 ≤ p ∧ p ≤ 15
   ·simp only [h0, h1, h2, and_self, decide_true, if_true, Bool.not_true]
    have hs := sshare_ev q p
    obtain ⟨e1, e2, e3⟩ := small_steps (absN_in h0) h1 h2
    have hn := smallP_in h1
    have g : (0 : Int) ≤ 15 + q / 6 := by omega
    have n0 : ¬ smallP q = 0 := by omega
    have u : IntKind.u64.wrap (15 + q / 6) = 15 + q / 6 := by
     have e : IntKind.u64.wrap (15 + q / 6) = (15 + q / 6) % 18446744073709551616 := by simp [IntKind.wrap, IntKind.bits, IntKind.signed]
     rw [e]; omega
    have hz : spec_l08Sized.f w = some (absN w) := by
     unfold spec_l08Sized.f absN
     by_cases c : w < 0
     ·rw [if_pos c, if_pos c, wrap_id (by omega) (by omega)]
     ·rw [if_neg c, if_neg c]
    refine Ev.step (fun k => by simp only [spec_SmallLevel.j0, Bool.false_eq_true, if_false, exp15 h1, u, g, if_true, hz, Option.bind_some, shl15 h1, n0]; rfl) (Ev.bind hs ?_)
    simp only [e1, spec_l08Signed.f]
    unfold sgnN
    by_cases c : w < 0
    ·simp only [c, if_true, Option.bind_some]
     rw [wrap_id (by omega) (by omega)]
     exact Ev.now _
    ·simp only [c, if_false, Option.bind_some]
     exact Ev.now _
   ·simp only [h0, h1, h2, and_self, and_false, decide_true, decide_false, if_true, if_false, Bool.not_false]
    exact hbad _ _ _
  ·simp only [h0, h1, and_self, false_and, and_false, decide_true, decide_false, if_true, if_false, Bool.false_eq_true]
   exact hbad _ _ _
 ·simp only [h0, false_and, decide_false, if_false, Bool.false_eq_true]
  exact hbad _ _ _
def stepT (m : Int) : Int := if m = 0 then 10 else if m = 1 then 11 else if m = 2 then 13 else if m = 3 then 14 else if m = 4 then 16 else 18
def stepN (q : Int) : Int := if 0 ≤ q ∧ q ≤ 40 then stepT (q % 6) * 2 ^ (q / 6).toNat else 0
theorem stepT_in (m : Int) : 10 ≤ stepT m ∧ stepT m ≤ 18 := by
 unfold stepT
 repeat' split
 all_goals omega
theorem stepN_in {q : Int} (h : 0 ≤ q ∧ q ≤ 40) : 10 ≤ stepN q ∧ stepN q ≤ 1152 := by
 unfold stepN
 rw [if_pos h]
 have hs := stepT_in (q % 6)
 have hp := pow_le_nat (a := (q / 6).toNat) (b := 6) (by omega)
 have hp1 := pow_ge1 (q / 6).toNat
 have a1 : stepT (q % 6) * 2 ^ (q / 6).toNat ≤ 18 * 2 ^ 6 := Int.mul_le_mul hs.2 hp (by omega) (by omega)
 have a2 : stepT (q % 6) * 1 ≤ stepT (q % 6) * 2 ^ (q / 6).toNat := Int.mul_le_mul_of_nonneg_left hp1 (by omega)
 omega
theorem step_val (q : Int) : impl_StepOf.f q = some (stepN q) := by
 unfold impl_StepOf.f stepN
 simp only [within_eq, Option.bind_some]
 by_cases h : 0 ≤ q ∧ q ≤ 40
 ·have e : wrap64 (Int.tdiv q 6) = q / 6 := by rw [Int.tdiv_eq_ediv_of_nonneg h.1, wrap_id (by omega) (by omega)]
  have g1 : (0 : Int) ≤ q % 6 := by omega
  have g2 : q % 6 < (([10, 11, 13, 14, 16, 18] : List Int).length : Int) := by simp only [List.length_cons, List.length_nil]; omega
  have g3 : (0 : Int) ≤ q / 6 := by omega
  have hr : rd [10, 11, 13, 14, 16, 18] (q % 6) = stepT (q % 6) := by
   have hq : q % 6 = 0 ∨ q % 6 = 1 ∨ q % 6 = 2 ∨ q % 6 = 3 ∨ q % 6 = 4 ∨ q % 6 = 5 := by omega
   generalize q % 6 = m at hq
   rcases hq with rfl | rfl | rfl | rfl | rfl | rfl <;> rfl
  have hs := stepT_in (q % 6)
  simp only [h, and_self, decide_true, if_true, e, Int.tmod_eq_emod_of_nonneg h.1, g1, g2, g3, hr]
  rw [shl_val (by omega) (by omega)]
 ·simp only [h, decide_false, if_false, Bool.false_eq_true]
def largeQ (a s : Int) : Int := (a + s / 2) / s
def largeN (w q : Int) : Int := if (-20000 ≤ w ∧ w ≤ 20000) ∧ 0 ≤ q ∧ q ≤ 40 then sgnN w (largeQ (absN w) (stepN q)) else 0
theorem large_steps {a s : Int} (ha : 0 ≤ a ∧ a ≤ 20000) (hs : 10 ≤ s ∧ s ≤ 1152) : wrap64 (Int.tdiv (wrap64 (a + (wrap64 (Int.tdiv s 2)))) s) = largeQ a s ∧ 0 ≤ largeQ a s ∧ largeQ a s ≤ 30000 := by
 unfold largeQ
 have hq := quot_in (x := a + s / 2) (n := s) (by omega) (by omega)
 rw [Int.tdiv_eq_ediv_of_nonneg (a := s) (by omega), wrap_id (x := s / 2) (by omega) (by omega), wrap_id (x := a + s / 2) (by omega) (by omega), Int.tdiv_eq_ediv_of_nonneg (a := a + s / 2) (by omega)]
 have hb : a + s / 2 ≤ 30000 := by omega
 generalize (a + s / 2) / s = z at hq ⊢
 exact ⟨wrap_id (by omega) (by omega), hq.1, by omega⟩
theorem large_ev (w q : Int) : Ev (fun k => impl_LargeLevel.f k w q) (largeN w q) := by
 have hbad : ∀ x y : Int, Ev (fun k => impl_LargeLevel.j0 k x y true) 0 := fun x y => Ev.step (f := fun _ => some 0) (fun k => by simp only [impl_LargeLevel.j0]; rfl) (Ev.now _)
 unfold impl_LargeLevel.f largeN
 simp only [within_eq, Option.bind_some]
 by_cases h0 : -20000 ≤ w ∧ w ≤ 20000
 ·by_cases h1 : 0 ≤ q ∧ q ≤ 40
  ·simp only [h0, h1, and_self, decide_true, if_true, Bool.not_true]
   have hs := stepN_in h1
   obtain ⟨e1, e2, e3⟩ := large_steps (absN_in h0) hs
   have n0 : ¬ stepN q = 0 := by omega
   refine Ev.step (f := fun _ => some (sgnN w (largeQ (absN w) (stepN q)))) (fun k => ?_) (Ev.now _)
   simp only [impl_LargeLevel.j0, Bool.false_eq_true, if_false, step_val, impl_size.f, Option.bind_some, size_val h0, n0, e1, impl_signed.f]
   unfold sgnN
   by_cases c : w < 0
   ·simp only [c, if_true, Option.bind_some]
    rw [wrap_id (by omega) (by omega)]
   ·simp only [c, if_false, Option.bind_some]
  ·simp only [h0, h1, and_self, and_false, decide_true, decide_false, if_true, if_false, Bool.not_false]
   exact hbad _ _
 ·simp only [h0, false_and, decide_false, if_false, Bool.false_eq_true]
  exact hbad _ _
theorem condB_in {q : Int} {c d : Bool} (h : condB q c d = true) : 0 ≤ q ∧ q ≤ 40 := by
 unfold condB at h
 exact of_decide_eq_true (Bool.and_eq_true _ _ ▸ h).1
theorem sstep_fin : ∀ q : Fin 41, spec_StepOf.f 80 (q.val : Int) = some (stepN (q.val : Int)) := by decide +kernel
theorem sstep_ev {q : Int} (h : 0 ≤ q ∧ q ≤ 40) : Ev (fun k => spec_StepOf.f k q) (stepN q) := by
 have e : ((⟨q.toNat, by omega⟩ : Fin 41).val : Int) = q := Int.toNat_of_nonneg h.1
 have f := sstep_fin ⟨q.toNat, by omega⟩
 rw [e] at f
 exact Ev.of (fun n => spec_StepOf.mono _ _) f
theorem slarge_ev {q : Int} (hq : 0 ≤ q ∧ q ≤ 40) (w : Int) (q' : Int) (e : q' = q := by rfl) : Ev (fun k => spec_LargeLevel.f k w q') (largeN w q') := by
 subst e
 have hbad : ∀ x y : Int, Ev (fun k => spec_LargeLevel.j0 k x y true) 0 := fun x y => Ev.step (f := fun _ => some 0) (fun k => by simp only [spec_LargeLevel.j0]; rfl) (Ev.now _)
 unfold spec_LargeLevel.f largeN
 simp only [in_eq, Option.bind_some]
 by_cases h0 : -20000 ≤ w ∧ w ≤ 20000
 ·simp only [h0, hq, and_self, decide_true, if_true, Bool.not_true]
  have hs := stepN_in hq
  obtain ⟨e1, e2, e3⟩ := large_steps (absN_in h0) hs
  have n0 : ¬ stepN q' = 0 := by omega
  have hz : spec_l08Sized.f w = some (absN w) := by
   unfold spec_l08Sized.f absN
   by_cases c : w < 0
   ·rw [if_pos c, if_pos c, wrap_id (by omega) (by omega)]
   ·rw [if_neg c, if_neg c]
  refine Ev.step (fun k => by simp only [spec_LargeLevel.j0, Bool.false_eq_true, if_false]; rfl) (Ev.bind (sstep_ev hq) ?_)
  simp only [hz, Option.bind_some, n0, if_false, e1, spec_l08Signed.f]
  unfold sgnN
  by_cases c : w < 0
  ·simp only [c, if_true, Option.bind_some]
   rw [wrap_id (by omega) (by omega)]
   exact Ev.now _
  ·simp only [c, if_false, Option.bind_some]
   exact Ev.now _
 ·simp only [h0, false_and, decide_false, if_false, Bool.false_eq_true]
  exact hbad _ _
def outv (l : List Int) (q : Int) : Nat → List Int
 | 0 => []
 | k + 1 => outv l q k ++ scanv 4 ((turnedL t4 (qv l k)).mapIdx (fun i x => smallN x q (i : Int)))
theorem outv_len (l : List Int) (q : Int) : ∀ k, (outv l q k).length = 16 * k
 | 0 => rfl
 | k + 1 => by rw [outv, List.length_append, outv_len l q k, scanv_len (n := 16) (Or.inl ⟨rfl, rfl⟩)]; omega
theorem qv_ok {l : List Int} (hl : l.length = 64) (hb : allB (-255) 255 l = true) (k : Nat) (hk : k < 4) : FoOk (qv l k) := by
 refine ⟨qv_len l k, allB_iff.2 (fun x hx => ?_)⟩
 obtain ⟨i, hi, rfl⟩ := List.getElem_of_mem hx
 rw [qv_len] at hi
 have hv := qv_get l k i hi
 have hat := atq_lt k i hk hi
 rw [← hv, rd_nat l (atq k i) (by omega)]
 have := allB_iff.1 hb _ (List.getElem_mem (l := l) (n := atq k i) (by omega))
 omega
def levN (l : List Int) (q : Int) (c d : Bool) : List Int × Bool :=
 if (l.length = 64 ∧ allB (-255) 255 l = true) ∧ condB q c d = true then (if d = true then (scanv 8 l, true) else (if c = true then (scanv 8 ((sumsv l).map (largeN · q)), true) else (outv l q 4, true))) else ([], false)
theorem levN_len (l : List Int) (q : Int) (c d : Bool) : (levN l q c d).1.length ≤ 64 := by
 unfold levN
 split
 ·split
  ·exact Nat.le_of_eq (scanv_len (Or.inr ⟨rfl, rfl⟩) _)
  ·split
   ·exact Nat.le_of_eq (scanv_len (Or.inr ⟨rfl, rfl⟩) _)
   ·exact Nat.le_of_eq (outv_len l q 4)
 ·exact Nat.zero_le _
theorem lev_large (l : List Int) (hl : l.length = 64) (a : Bool) (q : Int) (hq : 0 ≤ q ∧ q ≤ 40) (c d : Bool) : Ev (fun k => impl_LevelsOf.l0 k l 64 0 a q c d) (scanv 8 (l.map (largeN · q)), true) := by
 obtain ⟨m, hm⟩ : ∃ m, m = l.map (largeN · q) := ⟨_, rfl⟩
 have lm : m.length = 64 := by rw [hm, List.length_map, hl]
 rw [← hm]
 have H : ∀ i, i ≤ 64 → Ev (fun k => impl_LevelsOf.l0 k (m.take i ++ l.drop i) 64 (i : Int) a q c d) (scanv 8 m, true) := by
  refine down 64 ?_ ?_
  ·have e : m.take 64 ++ l.drop 64 = m := by rw [List.take_of_length_le (by omega), List.drop_eq_nil_of_le (by omega), List.append_nil]
   have hs := scanned_ev 8 m
   rw [if_pos (show ScOk 8 m from Or.inr ⟨rfl, lm⟩)] at hs
   refine Ev.step (f := fun k => (impl_Scanned.f k 8 m).bind fun bt => (some (bt.1, bt.2))) (fun k => ?_) (Ev.bind hs (Ev.now _))
   simp only [impl_LevelsOf.l0]
   rw [if_neg (by omega), e]
  ·intro i hi h
   have hr := mix_rd m l i (by omega) (by omega)
   have hlen := mix_length m l i (by omega) (by omega)
   have hset := mix_set m l i (by omega) (by omega)
   have hv : m[i]'(by omega) = largeN (l[i]'(by omega)) q := by simp [hm]
   rw [hv] at hset
   refine Ev.step (f := fun k => (impl_LargeLevel.f k (l[i]'(by omega)) q).bind fun t => impl_LevelsOf.l0 k ((m.take i ++ l.drop i).set i t) 64 ((i : Int) + 1) a q c d) (fun k => ?_) (Ev.bind (large_ev _ q) ?_)
   ·simp only [impl_LevelsOf.l0]
    rw [if_pos (by omega), if_pos (by omega), if_pos (by rw [hlen]; omega), hr, Int.toNat_natCast, wrap_id (x := (i : Int) + 1) (by omega) (by omega)]
   ·rw [hset]
    exact h
 have h0 := H 0 (by omega)
 exact h0
theorem lev_small (x0 out : List Int) (kk : Nat) (hk : kk < 4) (ho : out.length = 16 * kk) (l : List Int) (hl : l.length = 16) (a : Bool) (q : Int) (c d : Bool) (R : List Int × Bool)
  (h : Ev (fun k => impl_LevelsOf.l1 k x0 (out ++ scanv 4 (l.mapIdx (fun i x => smallN x q (i : Int)))) ((kk + 1 : Nat) : Int) a q c d) R) : Ev (fun k => impl_LevelsOf.l3 k x0 out l (kk : Int) 16 0 a q c d) R := by
 obtain ⟨m, hm⟩ : ∃ m, m = l.mapIdx (fun i x => smallN x q (i : Int)) := ⟨_, rfl⟩
 have lm : m.length = 16 := by rw [hm, List.length_mapIdx, hl]
 rw [← hm] at h
 have H : ∀ i, i ≤ 16 → Ev (fun k => impl_LevelsOf.l3 k x0 out (m.take i ++ l.drop i) (kk : Int) 16 (i : Int) a q c d) R := by
  refine down 16 ?_ ?_
  ·have e : m.take 16 ++ l.drop 16 = m := by rw [List.take_of_length_le (by omega), List.drop_eq_nil_of_le (by omega), List.append_nil]
   have hs := scanned_ev 4 m
   rw [if_pos (show ScOk 4 m from Or.inl ⟨rfl, lm⟩)] at hs
   have hz : (scanv 4 m).length = 16 := scanv_len (Or.inl ⟨rfl, rfl⟩) m
   refine Ev.step (f := fun k => (impl_Scanned.f k 4 m).bind fun bt => (if out.length + bt.1.length < 17592186044416 then (impl_LevelsOf.l1 k x0 (out ++ bt.1) ((kk : Int) + 1) a q c d) else none)) (fun k => ?_) (Ev.bind hs ?_)
   ·simp only [impl_LevelsOf.l3]
    rw [if_neg (by omega), e, wrap_id (x := (kk : Int) + 1) (by omega) (by omega)]
   ·have g : out.length + (scanv 4 m).length < 17592186044416 := by omega
    simp only [g, if_true]
    exact h
  ·intro i hi h1
   have hr := mix_rd m l i (by omega) (by omega)
   have hlen := mix_length m l i (by omega) (by omega)
   have hset := mix_set m l i (by omega) (by omega)
   have hv : m[i]'(by omega) = smallN (l[i]'(by omega)) q (i : Int) := by simp [hm]
   rw [hv] at hset
   refine Ev.step (f := fun k => (impl_SmallLevel.f k (l[i]'(by omega)) q (i : Int)).bind fun t => impl_LevelsOf.l3 k x0 out ((m.take i ++ l.drop i).set i t) (kk : Int) 16 ((i : Int) + 1) a q c d) (fun k => ?_) (Ev.bind (small_ev _ q _) ?_)
   ·simp only [impl_LevelsOf.l3]
    rw [if_pos (by omega), if_pos (by omega), if_pos (by rw [hlen]; omega), hr, Int.toNat_natCast, wrap_id (x := (i : Int) + 1) (by omega) (by omega)]
   ·rw [hset]
    exact h1
 have h0 := H 0 (by omega)
 exact h0
theorem lev_take (l : List Int) (hl : l.length = 64) (out : List Int) (kk : Nat) (hk : kk < 4) (a : Bool) (q : Int) (c d : Bool) (R : List Int × Bool)
  (h : Ev (fun k => impl_LevelsOf.l3 k l out (turnedL t4 (qv l kk)) (kk : Int) 16 0 a q c d) R) (hf : FoOk (qv l kk)) : Ev (fun k => impl_LevelsOf.l2 k l out [] (kk : Int) (qL kk) 16 0 a q c d) R := by
 have lq := qv_len l kk
 have H : ∀ i, i ≤ 16 → Ev (fun k => impl_LevelsOf.l2 k l out ((qv l kk).take i) (kk : Int) (qL kk) 16 (i : Int) a q c d) R := by
  refine down 16 ?_ ?_
  ·have e : (qv l kk).take 16 = qv l kk := List.take_of_length_le (by omega)
   have hs := four_ev (qv l kk) (by omega)
   rw [if_pos hf] at hs
   have ht : ((turnedL t4 (qv l kk)).length : Int) = 16 := by rw [turnedL_len, lq]; rfl
   refine Ev.step (f := fun k => (impl_Four.f k (qv l kk)).bind fun t => (impl_LevelsOf.l3 k l out t (kk : Int) (t.length : Int) 0 a q c d)) (fun k => ?_) (Ev.bind hs ?_)
   ·simp only [impl_LevelsOf.l2]
    rw [if_neg (by omega), e]
   ·rw [ht]
    exact h
  ·intro i hi h1
   have hq := qL_rd kk i hi
   have hv := qv_get l kk i hi
   have hat := atq_lt kk i hk hi
   refine Ev.step (fun k => ?_) h1
   simp only [impl_LevelsOf.l2]
   rw [if_pos (by omega), if_pos (by omega), if_pos (by rw [qL_len]; omega), hq, if_pos (by omega), if_pos (by omega), if_pos (by rw [List.length_take]; omega), wrap_id (x := (i : Int) + 1) (by omega) (by omega), hv, take_snoc' _ i (by omega), cast1]
 exact H 0 (by omega)
theorem lev_rounds (l : List Int) (hl : l.length = 64) (hb : allB (-255) 255 l = true) (a : Bool) (q : Int) (c d : Bool) : Ev (fun k => impl_LevelsOf.l1 k l [] 0 a q c d) (outv l q 4, true) := by
 have H : ∀ kk, kk ≤ 4 → Ev (fun k => impl_LevelsOf.l1 k l (outv l q kk) (kk : Int) a q c d) (outv l q 4, true) := by
  refine down 4 ?_ ?_
  ·exact Ev.step (f := fun _ => some (outv l q 4, true)) (fun k => by simp only [impl_LevelsOf.l1]; rw [if_neg (by omega)]) (Ev.now _)
  ·intro kk hk h
   have hf := qv_ok hl hb kk hk
   have h3 := lev_small l (outv l q kk) kk hk (outv_len l q kk) (turnedL t4 (qv l kk)) (by rw [turnedL_len, qv_len]) a q c d _ h
   have h2 := lev_take l hl (outv l q kk) kk hk a q c d _ h3 hf
   refine Ev.step (f := fun k => (impl_quarter.f k (kk : Int)).bind fun t => (impl_LevelsOf.l2 k l (outv l q kk) [] (kk : Int) t (t.length : Int) 0 a q c d)) (fun k => ?_) (Ev.bind (quarter_ev kk hk) ?_)
   ·simp only [impl_LevelsOf.l1]
    rw [if_pos (by omega)]
   ·rw [qL_len]
    exact h2
 exact H 0 (by omega)
theorem levelsof_ev (l : List Int) (hl : l.length ≤ 17592186043904) (a : Bool) (q : Int) (c d : Bool) : Ev (fun k => impl_LevelsOf.f k l a q c d) (levN l q c d) := by
 have hbad : Ev (fun k => impl_LevelsOf.j0 k l true a q c d) ([], false) := Ev.step (f := fun _ => some ([], false)) (fun k => by simp only [impl_LevelsOf.j0]; rfl) (Ev.now _)
 unfold impl_LevelsOf.f levN
 refine Ev.bind (areIn_ev l 64 (-255) 255 hl) ?_
 rw [len_dec4 l 64 64 rfl]
 by_cases h0 : l.length = 64 ∧ allB (-255) 255 l = true
 ·rw [decide_eq_true h0.1, h0.2]
  simp only [Bool.and_self, if_true, cond_val, Option.bind_some]
  cases hc : condB q c d with
  | false =>
   rw [if_neg (fun h => by cases h.2)]
   exact hbad
  | true =>
   rw [if_pos ⟨⟨h0.1, trivial⟩, rfl⟩]
   have hq := condB_in hc
   cases d with
   | true =>
    have hs := scanned_ev 8 l
    rw [if_pos (show ScOk 8 l from Or.inr ⟨rfl, h0.1⟩)] at hs
    refine Ev.step (fun k => by simp only [impl_LevelsOf.j0, Bool.not_true, Bool.false_eq_true, if_false, if_true]; rfl) (Ev.bind hs ?_)
    simp only [if_true]; exact Ev.now _
   | false =>
    cases c with
    | true =>
     have he := eight_ev l hl
     rw [if_pos (show EiOk l from ⟨h0.1, allB_iff.2 (fun x hx => by have := allB_iff.1 h0.2 x hx; omega)⟩)] at he
     have hL : ((sumsv l).length : Int) = 64 := by rw [sumsv_len]; rfl
     refine Ev.step (fun k => by simp only [impl_LevelsOf.j0, Bool.not_true, Bool.false_eq_true, if_false, if_true]; rfl) (Ev.bind he ?_)
     rw [hL]
     exact lev_large (sumsv l) (sumsv_len l) a q hq true false
    | false =>
     refine Ev.step (fun k => by simp only [impl_LevelsOf.j0, Bool.not_true, Bool.false_eq_true, if_false]) (lev_rounds l h0.1 h0.2 a q false false)
 ·rw [and_false4 h0, if_neg (fun h => h0 h.1)]
  simp only [Bool.false_eq_true, if_false]
  exact hbad
theorem slev_large (l : List Int) (hl : l.length = 64) (a : Bool) (q : Int) (hq : 0 ≤ q ∧ q ≤ 40) (c d : Bool) : Ev (fun k => spec_LevelsOf.l0 k l 0 a q c d) (scanv 8 (l.map (largeN · q)), true) := by
 obtain ⟨m, hm⟩ : ∃ m, m = l.map (largeN · q) := ⟨_, rfl⟩
 have lm : m.length = 64 := by rw [hm, List.length_map, hl]
 rw [← hm]
 have H : ∀ i, i ≤ 64 → Ev (fun k => spec_LevelsOf.l0 k (m.take i ++ l.drop i) (i : Int) a q c d) (scanv 8 m, true) := by
  refine down 64 ?_ ?_
  ·have e : m.take 64 ++ l.drop 64 = m := by rw [List.take_of_length_le (by omega), List.drop_eq_nil_of_le (by omega), List.append_nil]
   have hs := sscanned_ev 8 m
   rw [if_pos (show ScOk 8 m from Or.inr ⟨rfl, lm⟩)] at hs
   refine Ev.step (f := fun k => (spec_Scanned.f k 8 m).bind fun bt => (some (bt.1, bt.2))) (fun k => ?_) (Ev.bind hs (Ev.now _))
   simp only [spec_LevelsOf.l0]
   rw [if_neg (by omega), e]
  ·intro i hi h
   have hr := mix_rd m l i (by omega) (by omega)
   have hlen := mix_length m l i (by omega) (by omega)
   have hset := mix_set m l i (by omega) (by omega)
   have hv : m[i]'(by omega) = largeN (l[i]'(by omega)) q := by simp [hm]
   rw [hv] at hset
   refine Ev.step (f := fun k => (spec_LargeLevel.f k (l[i]'(by omega)) q).bind fun t => spec_LevelsOf.l0 k ((m.take i ++ l.drop i).set i t) ((i : Int) + 1) a q c d) (fun k => ?_) (Ev.bind (slarge_ev hq _ q) ?_)
   ·simp only [spec_LevelsOf.l0]
    rw [if_pos (by omega), if_pos (by omega), if_pos (by rw [hlen]; omega), hr, Int.toNat_natCast, wrap_id (x := (i : Int) + 1) (by omega) (by omega)]
   ·rw [hset]
    exact h
 have h0 := H 0 (by omega)
 exact h0
theorem slev_small (x0 out : List Int) (kk : Nat) (hk : kk < 4) (ho : out.length = 16 * kk) (l : List Int) (hl : l.length = 16) (a : Bool) (q : Int) (c d : Bool) (R : List Int × Bool)
  (h : Ev (fun k => spec_LevelsOf.l1 k x0 (out ++ scanv 4 (l.mapIdx (fun i x => smallN x q (i : Int)))) ((kk + 1 : Nat) : Int) a q c d) R) : Ev (fun k => spec_LevelsOf.l2 k x0 out (kk : Int) l 0 a q c d) R := by
 obtain ⟨m, hm⟩ : ∃ m, m = l.mapIdx (fun i x => smallN x q (i : Int)) := ⟨_, rfl⟩
 have lm : m.length = 16 := by rw [hm, List.length_mapIdx, hl]
 rw [← hm] at h
 have H : ∀ i, i ≤ 16 → Ev (fun k => spec_LevelsOf.l2 k x0 out (kk : Int) (m.take i ++ l.drop i) (i : Int) a q c d) R := by
  refine down 16 ?_ ?_
  ·have e : m.take 16 ++ l.drop 16 = m := by rw [List.take_of_length_le (by omega), List.drop_eq_nil_of_le (by omega), List.append_nil]
   have hs := sscanned_ev 4 m
   rw [if_pos (show ScOk 4 m from Or.inl ⟨rfl, lm⟩)] at hs
   have hz : (scanv 4 m).length = 16 := scanv_len (Or.inl ⟨rfl, rfl⟩) m
   refine Ev.step (f := fun k => (spec_Scanned.f k 4 m).bind fun bt => (if out.length + bt.1.length < 17592186044416 then (spec_LevelsOf.l1 k x0 (out ++ bt.1) ((kk : Int) + 1) a q c d) else none)) (fun k => ?_) (Ev.bind hs ?_)
   ·simp only [spec_LevelsOf.l2]
    rw [if_neg (by omega), e, wrap_id (x := (kk : Int) + 1) (by omega) (by omega)]
   ·have g : out.length + (scanv 4 m).length < 17592186044416 := by omega
    simp only [g, if_true]
    exact h
  ·intro i hi h1
   have hr := mix_rd m l i (by omega) (by omega)
   have hlen := mix_length m l i (by omega) (by omega)
   have hset := mix_set m l i (by omega) (by omega)
   have hv : m[i]'(by omega) = smallN (l[i]'(by omega)) q (i : Int) := by simp [hm]
   rw [hv] at hset
   refine Ev.step (f := fun k => (spec_SmallLevel.f k (l[i]'(by omega)) q (i : Int)).bind fun t => spec_LevelsOf.l2 k x0 out (kk : Int) ((m.take i ++ l.drop i).set i t) ((i : Int) + 1) a q c d) (fun k => ?_) (Ev.bind (ssmall_ev _ q _) ?_)
   ·simp only [spec_LevelsOf.l2]
    rw [if_pos (by omega), if_pos (by omega), if_pos (by rw [hlen]; omega), hr, Int.toNat_natCast, wrap_id (x := (i : Int) + 1) (by omega) (by omega)]
   ·rw [hset]
    exact h1
 have h0 := H 0 (by omega)
 exact h0
theorem slev_rounds (l : List Int) (hl : l.length = 64) (hb : allB (-255) 255 l = true) (a : Bool) (q : Int) (c d : Bool) : Ev (fun k => spec_LevelsOf.l1 k l [] 0 a q c d) (outv l q 4, true) := by
 have H : ∀ kk, kk ≤ 4 → Ev (fun k => spec_LevelsOf.l1 k l (outv l q kk) (kk : Int) a q c d) (outv l q 4, true) := by
  refine down 4 ?_ ?_
  ·exact Ev.step (f := fun _ => some (outv l q 4, true)) (fun k => by simp only [spec_LevelsOf.l1]; rw [if_neg (by omega)]) (Ev.now _)
  ·intro kk hk h
   have hf := qv_ok hl hb kk hk
   have h3 := slev_small l (outv l q kk) kk hk (outv_len l q kk) (turnedL t4 (qv l kk)) (by rw [turnedL_len, qv_len]) a q c d _ h
   have hs := sfour_ev (qv l kk) (by rw [qv_len]; omega)
   rw [if_pos hf] at hs
   refine Ev.step (f := fun k => (spec_l14Quarter.f k l (kk : Int)).bind fun t => ((spec_Four.f k t).bind fun u => (spec_LevelsOf.l2 k l (outv l q kk) (kk : Int) u 0 a q c d))) (fun k => ?_) (Ev.bind (squarter_ev l hl kk hk) (Ev.bind hs h3))
   simp only [spec_LevelsOf.l1]
   rw [if_pos (by omega)]
 exact H 0 (by omega)
theorem slevelsof_ev (l : List Int) (hl : l.length ≤ 17592186043904) (a : Bool) (q : Int) (c d : Bool) : Ev (fun k => spec_LevelsOf.f k l a q c d) (levN l q c d) := by
 have hbad : Ev (fun k => spec_LevelsOf.j0 k l true a q c d) ([], false) := Ev.step (f := fun _ => some ([], false)) (fun k => by simp only [spec_LevelsOf.j0]; rfl) (Ev.now _)
 unfold spec_LevelsOf.f levN
 simp only [scond_val, Option.bind_some]
 cases hc : condB q c d with
 | false =>
  simp only [Bool.false_eq_true, if_false, and_false]
  exact hbad
 | true =>
  have hq := condB_in hc
  simp only [if_true, and_true]
  refine Ev.bind (all_ev l 64 255 hl (by omega) (by omega)) ?_
  rw [len_dec4 l 64 64 rfl]
  by_cases h0 : l.length = 64 ∧ allB (-255) 255 l = true
  ·rw [decide_eq_true h0.1, h0.2, if_pos ⟨h0.1, rfl⟩]
   cases d with
   | true =>
    have hs := sscanned_ev 8 l
    rw [if_pos (show ScOk 8 l from Or.inr ⟨rfl, h0.1⟩)] at hs
    refine Ev.step (fun k => by simp only [spec_LevelsOf.j0, Bool.and_self, Bool.not_true, Bool.false_eq_true, if_false, if_true]; rfl) (Ev.bind hs ?_)
    simp only [if_true]; exact Ev.now _
   | false =>
    cases c with
    | true =>
     have he := seight_ev l hl
     rw [if_pos (show EiOk l from ⟨h0.1, allB_iff.2 (fun x hx => by have := allB_iff.1 h0.2 x hx; omega)⟩)] at he
     refine Ev.step (fun k => by simp only [spec_LevelsOf.j0, Bool.and_self, Bool.not_true, Bool.false_eq_true, if_false, if_true]; rfl) (Ev.bind he ?_)
     exact slev_large (sumsv l) (sumsv_len l) a q hq true false
    | false =>
     refine Ev.step (fun k => by simp only [spec_LevelsOf.j0, Bool.and_self, Bool.not_true, Bool.false_eq_true, if_false]) (slev_rounds l h0.1 h0.2 a q false false)
  ·rw [and_false4 h0, if_neg h0]
   exact hbad
theorem FnExactLevelsOf : laws_FnExactLevelsOf.Pure := by
 intro l a q c d _ hl _ _
 refine Ev.rounds ?_
 unfold laws_FnExactLevelsOf.f
 by_cases h : (l.length : Int) > 1048576
 ·simp only [h, if_true]; exact Ev.now _
 ·simp only [h, if_false]
  have hT := toInts_ev l (by omega)
  have hS := slevelsof_ev l (by omega) a q c d
  have hI := levelsof_ev l (by omega) a q c d
  have hlen := levN_len l q c d
  generalize levN l q c d = r at hS hI hlen
  have hE := eqSelf_ev r.1 (by omega)
  have hEl := eqSelf_ev l (by omega)
  have hM := mark_ev l 1 (by omega) (by omega) (by omega)
  have hMr := mark_ev r.1 1 (by omega) (by omega) (by omega)
  have hH := held_ev r.1.length 1 (by omega) (by omega) (by omega)
  have n1 : ¬ (1 + (l.length : Int) < 0) := by omega
  have n2 : ¬ (1 + (r.1.length : Int) < 0) := by omega
  simp only [laws_toCond.f, Option.bind_some]
  repeat' (first
   | exact Ev.now _
   | (refine Ev.bind (by assumption) ?_)
   | (simp only [if_true, if_false, bne_self_eq_false, Bool.false_eq_true, n1, n2])
   | (refine Ev.step (fun k => by simp only [laws_FnExactLevelsOf.j0, laws_FnExactLevelsOf.j1, laws_FnExactLevelsOf.j2, laws_toCond.f, Option.bind_some]; rfl) ?_))
end Go.Proofs.Ytlmlkoalicjlhaa.Pure