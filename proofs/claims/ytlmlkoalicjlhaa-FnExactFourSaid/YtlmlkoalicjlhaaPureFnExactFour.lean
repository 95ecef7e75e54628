/- The program's Four answers what the reference's Four answers, for all lists, in new memory, and leaves its argument as it was. No condition beside the row's own. -/
import Derived.Test.YtlmlkoalicjlhaaQFnExactFourx3
namespace Go.Proofs.Ytlmlkoalicjlhaa.Pure
open Go.RowKit Go.Proofs.Ytlmlkoalicjlhaa.QFnExactFour Go.Proofs.YtlmlkoalicjlhaaW.PrintWords Go.Proofs.YtlmlkoalicjlhaaW.PrintLast Go.Proofs.YtlmlkoalicjlhaaW.PrintMore
set_option linter.unusedVariables false
set_option linter.unusedSimpArgs false

theorem wrap_id {x : Int} (h0 : -9223372036854775808 ≤ x) (h1 : x ≤ 9223372036854775807) : wrap64 x = x := by
  unfold wrap64
  omega
theorem wf64 {n : Int} (h : (Lit.int .i64 n).wf = true) : -9223372036854775808 ≤ n ∧ n ≤ 9223372036854775807 := by
  simp [Lit.wf, IntKind.min, IntKind.max, IntKind.signed, IntKind.bits] at h
  omega
theorem wfu8 {n : Int} (h : (Lit.int .u8 n).wf = true) : 0 ≤ n ∧ n ≤ 255 := by
  simp [Lit.wf, IntKind.min, IntKind.max, IntKind.signed, IntKind.bits] at h
  omega
theorem within_eq (a b c : Int) : impl_within.f a b c = some (decide (b ≤ a ∧ a ≤ c)) := by
  unfold impl_within.f
  by_cases h : a ≥ b
  · rw [if_pos h]; congr 1; rw [decide_eq_decide]; omega
  · rw [if_neg h]; congr 1; symm; rw [decide_eq_false_iff_not]; omega
theorem in_eq (a b c : Int) : spec_l01In.f a b c = some (decide (b ≤ a ∧ a ≤ c)) := by
  unfold spec_l01In.f
  by_cases h : a ≥ b
  · rw [if_pos h]; congr 1; rw [decide_eq_decide]; omega
  · rw [if_neg h]; congr 1; symm; rw [decide_eq_false_iff_not]; omega

theorem down {P : Nat → Prop} (n : Nat) (h0 : P n) (hs : ∀ i, i < n → P (i + 1) → P i) : ∀ i, i ≤ n → P i := by
  intro i hi
  obtain ⟨d, hd⟩ : ∃ d, d = n - i := ⟨_, rfl⟩
  induction d generalizing i with
  | zero =>
    have : i = n := by omega
    subst this; exact h0
  | succ d ih => exact hs i (by omega) (ih (i + 1) (by omega) (by omega))
theorem rd_nat (l : List Int) (i : Nat) (h : i < l.length) : rd l (i : Int) = l[i] := by
  unfold rd
  rw [List.getD_eq_getElem?_getD, Int.toNat_natCast, List.getElem?_eq_getElem h]; rfl
theorem cast1 (i : Nat) : ((i : Nat) : Int) + 1 = ((i + 1 : Nat) : Int) := rfl
theorem mix_set {α : Type} (l z : List α) (i : Nat) (hi : i < l.length) (hz : i < z.length) : (l.take i ++ z.drop i).set i l[i] = l.take (i + 1) ++ z.drop (i + 1) := by
  rw [List.set_append_right _ _ (by simp; omega)]
  rw [show i - (l.take i).length = 0 by simp; omega]
  rw [List.drop_eq_getElem_cons hz, List.set_cons_zero, List.take_succ_eq_append_getElem hi, List.append_assoc]; rfl
theorem mix_length {α : Type} (l z : List α) (i : Nat) (h : l.length = z.length) (hi : i ≤ l.length) : (l.take i ++ z.drop i).length = l.length := by
  simp; omega
theorem mix_end {α : Type} (l z : List α) (h : l.length = z.length) : l.take l.length ++ z.drop l.length = l := by
  rw [List.take_length, h, List.drop_length, List.append_nil]
theorem mix_zero {α : Type} (l z : List α) : l.take 0 ++ z.drop 0 = z := by simp
theorem drop_cons {α : Type} {l : List α} {i : Nat} (h : i < l.length) : l.drop i = l[i] :: l.drop (i + 1) := List.drop_eq_getElem_cons h
theorem toInts_ev (l : List Int) (hl : l.length ≤ 17592186043904) : Ev (fun k => laws_toIntS.f k l) l := by
  have H : ∀ i, i ≤ l.length → Ev (fun k => laws_toIntS.l0 k l (l.take i ++ (List.replicate l.length (0 : Int)).drop i) (i : Int)) l := by
    refine down l.length ?_ ?_
    · refine Ev.step (f := fun _ => some l) (fun k => ?_) (Ev.now _)
      simp only [laws_toIntS.l0]
      rw [if_neg (by omega), mix_end _ _ (by simp)]
    · intro i hi h
      refine Ev.step (fun k => ?_) h
      simp only [laws_toIntS.l0]
      rw [if_pos (by omega), if_pos (by omega), if_pos (by rw [mix_length _ _ _ (by simp) (by omega)]; omega), rd_nat l i hi, Int.toNat_natCast, mix_set _ _ _ hi (by simp; exact hi), wrap_id (by omega) (by omega), cast1]
  have h0 := H 0 (by omega)
  rw [mix_zero] at h0
  unfold laws_toIntS.f
  refine Ev.congr (fun k => ?_) h0
  rw [if_pos (by omega), if_pos (by simp; omega), Int.toNat_natCast]; rfl
theorem eqInts_ev (a b : List Int) (ha : a.length ≤ 17592186043904) : Ev (fun k => laws_eqIntS.f k a b) (decide (a = b)) := by
  by_cases hl : a.length = b.length
  · have H : ∀ i, i ≤ a.length → Ev (fun k => laws_eqIntS.l0 k a b (i : Int)) (decide (a.drop i = b.drop i)) := by
      refine down a.length ?_ ?_
      · refine Ev.step (f := fun _ => some true) (fun k => ?_) ?_
        · simp only [laws_eqIntS.l0]
          rw [if_neg (by omega)]
        · rw [show decide (a.drop a.length = b.drop a.length) = true by rw [hl]; simp [← hl]]; exact Ev.now _
      · intro i hi h
        have hb : i < b.length := by omega
        by_cases c : a[i] = b[i]
        · have e : decide (a.drop i = b.drop i) = decide (a.drop (i + 1) = b.drop (i + 1)) := by
            rw [decide_eq_decide, drop_cons hi, drop_cons hb, c, List.cons.injEq]; simp only [true_and]
          rw [e]
          refine Ev.step (fun k => ?_) h
          simp only [laws_eqIntS.l0]
          rw [if_pos (by omega), if_pos (by omega), if_pos (by omega), rd_nat a i hi, rd_nat b i hb, if_pos c, wrap_id (by omega) (by omega), cast1]
        · have e : decide (a.drop i = b.drop i) = false := by
            rw [decide_eq_false_iff_not, drop_cons hi, drop_cons hb, List.cons.injEq]; exact fun h => c h.1
          rw [e]
          refine Ev.step (f := fun _ => some false) (fun k => ?_) (Ev.now _)
          simp only [laws_eqIntS.l0]
          rw [if_pos (by omega), if_pos (by omega), if_pos (by omega), rd_nat a i hi, rd_nat b i hb, if_neg c]
    have h0 := H 0 (by omega)
    unfold laws_eqIntS.f
    refine Ev.congr (fun k => ?_) h0
    rw [if_pos (by omega)]; rfl
  · unfold laws_eqIntS.f
    rw [show decide (a = b) = false from decide_eq_false (fun h => hl (by rw [h]))]
    refine Ev.congr (f := fun _ => some false) (fun k => ?_) (Ev.now _)
    rw [if_neg (by omega)]
/-- All numbers of a list are from lo to hi. -/
def allB (lo hi : Int) (l : List Int) : Bool := l.all fun x => decide (lo ≤ x ∧ x ≤ hi)
theorem allB_cons (lo hi x : Int) (l : List Int) : allB lo hi (x :: l) = (decide (lo ≤ x ∧ x ≤ hi) && allB lo hi l) := rfl
theorem allB_iff {lo hi : Int} {l : List Int} : allB lo hi l = true ↔ ∀ x ∈ l, lo ≤ x ∧ x ≤ hi := by
  unfold allB
  rw [List.all_eq_true]
  simp only [decide_eq_true_eq]
theorem areIn_ev (l : List Int) (n lo hi : Int) (hl : l.length ≤ 17592186043904) : Ev (fun k => impl_areIn.f k l n lo hi) (decide ((l.length : Int) = n) && allB lo hi l) := by
  have H : ∀ i, i ≤ l.length → Ev (fun k => impl_areIn.l0 k l n lo hi l (l.length : Int) (i : Int)) (decide ((l.length : Int) = n) && allB lo hi (l.drop i)) := by
    refine down l.length ?_ ?_
    · refine Ev.step (f := fun _ => some (decide ((l.length : Int) = n))) (fun k => ?_) ?_
      · simp only [impl_areIn.l0]
        rw [if_neg (by omega)]; congr 1
      · rw [List.drop_length]; simp only [allB, List.all_nil, Bool.and_true]; exact Ev.now _
    · intro i h1 h
      rw [drop_cons h1, allB_cons]
      by_cases c : lo ≤ l[i] ∧ l[i] ≤ hi
      · rw [decide_eq_true c, Bool.true_and]
        refine Ev.step (fun k => ?_) h
        simp only [impl_areIn.l0]
        rw [if_pos (by omega), if_pos (by omega), if_pos (by omega), rd_nat l i h1, within_eq, Option.bind_some, if_pos (decide_eq_true c), wrap_id (by omega) (by omega), cast1]
      · rw [decide_eq_false c, Bool.false_and, Bool.and_false]
        refine Ev.step (f := fun _ => some false) (fun k => ?_) (Ev.now _)
        simp only [impl_areIn.l0]
        rw [if_pos (by omega), if_pos (by omega), if_pos (by omega), rd_nat l i h1, within_eq, Option.bind_some, if_neg (by simpa using c)]
  exact H 0 (by omega)
theorem all_ev (l : List Int) (n m : Int) (hl : l.length ≤ 17592186043904) (hm : 0 ≤ m) (hm' : m ≤ 1000000000) : Ev (fun k => spec_l09All.f k l n m) (decide ((l.length : Int) = n) && allB (-m) m l) := by
  unfold spec_l09All.f
  by_cases hn : (l.length : Int) = n
  · subst hn
    have H : ∀ i, i ≤ l.length → Ev (fun k => spec_l09All.l0 k l (l.length : Int) m (i : Int)) (allB (-m) m (l.drop i)) := by
      refine down l.length ?_ ?_
      · refine Ev.step (f := fun _ => some true) (fun k => ?_) ?_
        · simp only [spec_l09All.l0]
          rw [if_neg (by omega)]
        · rw [List.drop_length]; exact Ev.now _
      · intro i h1 h
        rw [drop_cons h1, allB_cons]
        by_cases c : -m ≤ l[i] ∧ l[i] ≤ m
        · rw [decide_eq_true c, Bool.true_and]
          refine Ev.step (fun k => ?_) h
          simp only [spec_l09All.l0]
          rw [if_pos (by omega), if_pos (by omega), if_pos (by omega), rd_nat l i h1, wrap_id (x := -m) (by omega) (by omega), in_eq, Option.bind_some, if_pos (decide_eq_true c), wrap_id (by omega) (by omega), cast1]
        · rw [decide_eq_false c, Bool.false_and]
          refine Ev.step (f := fun _ => some false) (fun k => ?_) (Ev.now _)
          simp only [spec_l09All.l0]
          rw [if_pos (by omega), if_pos (by omega), if_pos (by omega), rd_nat l i h1, wrap_id (x := -m) (by omega) (by omega), in_eq, Option.bind_some, if_neg (by simpa using c)]
    refine Ev.congr (fun k => by rw [if_pos rfl]) ?_
    rw [decide_eq_true rfl, Bool.true_and]
    exact H 0 (by omega)
  · rw [decide_eq_false hn, Bool.false_and]
    exact Ev.congr (f := fun _ => some false) (fun k => by rw [if_neg hn]) (Ev.now _)

/-- The numbers a, a + 1, .., n of them. -/
def marks : Nat → Int → List Int
  | 0, _ => []
  | n + 1, a => a :: marks n (a + 1)
theorem marks_length (n : Nat) : ∀ a, (marks n a).length = n := by
  induction n with
  | zero => intro a; rfl
  | succ n ih => intro a; simp [marks, ih]
theorem marks_get (n : Nat) : ∀ (a : Int) (i : Nat) (h : i < (marks n a).length), (marks n a)[i] = a + i := by
  induction n with
  | zero => intro a i h; simp [marks] at h
  | succ n ih =>
    intro a i h
    cases i with
    | zero => simp [marks]
    | succ i =>
      have := ih (a + 1) i (by simp [marks] at h; exact h)
      simp only [marks, List.getElem_cons_succ]
      rw [this]
      have e : ((i + 1 : Nat) : Int) = (i : Int) + 1 := rfl
      rw [e]; omega
theorem mark_ev (l : List Int) (a : Int) (hl : l.length ≤ 17592186043904) (h0 : 0 ≤ a) (h1 : a ≤ 1000000000000) : Ev (fun k => laws_markIntS.f k l a) (a + (l.length : Int), marks l.length a) := by
  have hm := marks_length l.length a
  have H : ∀ i, i ≤ l.length → Ev (fun k => laws_markIntS.l0 k ((marks l.length a).take i ++ l.drop i) (a + (i : Int)) (i : Int)) (a + (l.length : Int), marks l.length a) := by
    refine down l.length ?_ ?_
    · refine Ev.step (f := fun _ => some (a + (l.length : Int), marks l.length a)) (fun k => ?_) (Ev.now _)
      have e := mix_end (marks l.length a) l hm
      rw [hm] at e
      simp only [laws_markIntS.l0]
      rw [e, if_neg (by rw [hm]; omega)]
    · intro i hi h
      refine Ev.step (fun k => ?_) h
      have e := mix_set (marks l.length a) l i (by omega) hi
      rw [marks_get] at e
      simp only [laws_markIntS.l0]
      rw [if_pos (by rw [mix_length _ _ _ hm (by omega)]; omega), if_pos (by omega), Int.toNat_natCast, e, wrap_id (x := a + (i : Int) + 1) (by omega) (by omega), wrap_id (x := (i : Int) + 1) (by omega) (by omega), Int.add_assoc, cast1]
  have h := H 0 (by omega)
  rw [mix_zero] at h
  simpa [laws_markIntS.f] using h
theorem held_ev (n : Nat) (a : Int) (hl : n ≤ 17592186043904) (h0 : 0 ≤ a) (h1 : a ≤ 1000000000000) : Ev (fun k => laws_heldIntS.f k (marks n a) a) (a + (n : Int)) := by
  have hm := marks_length n a
  have H : ∀ i, i ≤ n → Ev (fun k => laws_heldIntS.l0 k (marks n a) (a + (i : Int)) (i : Int)) (a + (n : Int)) := by
    refine down n ?_ ?_
    · refine Ev.step (f := fun _ => some (a + (n : Int))) (fun k => ?_) (Ev.now _)
      simp only [laws_heldIntS.l0]
      rw [hm, if_neg (by omega)]
    · intro i hi h
      refine Ev.step (fun k => ?_) h
      simp only [laws_heldIntS.l0]
      rw [if_pos (by omega), if_pos (by omega), rd_nat _ i (by omega), marks_get, if_pos rfl, wrap_id (x := a + (i : Int) + 1) (by omega) (by omega), wrap_id (x := (i : Int) + 1) (by omega) (by omega), Int.add_assoc, cast1]
  have h := H 0 (by omega)
  simpa [laws_heldIntS.f] using h
theorem eqSelf_ev (a : List Int) (ha : a.length ≤ 17592186043904) : Ev (fun k => laws_eqIntS.f k a a) true := by
  have h := eqInts_ev a a ha
  rwa [decide_eq_true rfl] at h

def FoOk (x : List Int) : Prop := x.length = 16 ∧ allB (-1000) 1000 x = true
instance (x : List Int) : Decidable (FoOk x) := by unfold FoOk; infer_instance
theorem list16 (x : List Int) (h : x.length = 16) : ∃ a0 a1 a2 a3 a4 a5 a6 a7 a8 a9 a10 a11 a12 a13 a14 a15, x = [a0, a1, a2, a3, a4, a5, a6, a7, a8, a9, a10, a11, a12, a13, a14, a15] := by
  match x, h with
  | [a0, a1, a2, a3, a4, a5, a6, a7, a8, a9, a10, a11, a12, a13, a14, a15], _ => exact ⟨a0, a1, a2, a3, a4, a5, a6, a7, a8, a9, a10, a11, a12, a13, a14, a15, rfl⟩
theorem len_dec4 (l : List Int) (n : Nat) (m : Int) (h : m = (n : Int)) : decide ((l.length : Int) = m) = decide (l.length = n) := by rw [decide_eq_decide]; omega
theorem and_false4 {b : Bool} {p : Prop} [Decidable p] (h : ¬ (p ∧ b = true)) : (decide p && b) = false := by
  rw [Bool.eq_false_iff]; intro h'; rw [Bool.and_eq_true, decide_eq_true_eq] at h'; exact h h'
theorem turnedL_len (T x) : (turnedL T x).length = x.length := by simp [turnedL, colsT, rowsT, colT, rowT]
theorem Ev.from {α : Type} {f : Nat → Option α} {v : α} (n : Nat) (h : ∀ k, f (k + n) = some v) : Ev f v := by
  refine ⟨n, fun k hk => ?_⟩
  have e := h (k - n)
  rwa [Nat.sub_add_cancel hk] at e
theorem sfour16 (a0 a1 a2 a3 a4 a5 a6 a7 a8 a9 a10 a11 a12 a13 a14 a15 : Int) (k : Nat) : ((spec_l09Rows.f (k + 17) [a0, a1, a2, a3, a4, a5, a6, a7, a8, a9, a10, a11, a12, a13, a14, a15]).bind fun t125 => ((spec_l09Flip.f (k + 17) t125).bind fun t128 => ((spec_l09Rows.f (k + 17) t128).bind fun t131 => ((spec_l09Flip.f (k + 17) t131).bind fun t134 => (some t134))))) = some (turnedL t4 [a0, a1, a2, a3, a4, a5, a6, a7, a8, a9, a10, a11, a12, a13, a14, a15]) := by kernel_rfl
theorem sfour_ev (x : List Int) (hx : x.length ≤ 17592186043904) : Ev (fun k => spec_Four.f k x) (if FoOk x then turnedL t4 x else []) := by
  unfold spec_Four.f
  refine Ev.bind (all_ev x 16 1000 hx (by omega) (by omega)) ?_
  rw [len_dec4 x 16 16 rfl]
  by_cases c : FoOk x
  · rw [if_pos c, decide_eq_true c.1, c.2]
    simp only [Bool.and_self, if_true]
    obtain ⟨a0, a1, a2, a3, a4, a5, a6, a7, a8, a9, a10, a11, a12, a13, a14, a15, rfl⟩ := list16 x c.1
    exact Ev.from 17 (fun k => sfour16 a0 a1 a2 a3 a4 a5 a6 a7 a8 a9 a10 a11 a12 a13 a14 a15 k)
  · rw [if_neg c, and_false4 c]
    simp only [Bool.false_eq_true, if_false]; exact Ev.now _
theorem four_ev (x : List Int) (hx : x.length ≤ 17592186043904) : Ev (fun k => impl_Four.f k x) (if FoOk x then turnedL t4 x else []) := by
  unfold impl_Four.f
  refine Ev.bind (areIn_ev x 16 (-1000) 1000 hx) ?_
  rw [len_dec4 x 16 16 rfl]
  by_cases c : FoOk x
  · rw [if_pos c, decide_eq_true c.1, c.2]
    simp only [Bool.and_self, if_true]
    rw [if_pos c.1]
    exact Ev.now _
  · rw [if_neg c, and_false4 c]
    simp only [Bool.false_eq_true, if_false]; exact Ev.now _
theorem fout_len (x : List Int) : (if FoOk x then turnedL t4 x else []).length ≤ 16 := by
  by_cases c : FoOk x
  · rw [if_pos c, turnedL_len, c.1]; omega
  · rw [if_neg c]; simp

theorem FnExactFour : laws_FnExactFour.Pure := by
  intro x _ hx _
  refine Ev.rounds ?_
  unfold laws_FnExactFour.f
  by_cases c : (x.length : Int) > 1048576
  · simp only [c, if_true]; exact Ev.now _
  · simp only [c, if_false]
    have hT := toInts_ev x (by omega)
    have hS := sfour_ev x (by omega)
    have hI := four_ev x (by omega)
    have hlen := fout_len x
    generalize (if FoOk x then turnedL t4 x else []) = v at hS hI hlen
    have hE := eqSelf_ev v (by omega)
    have hEx := eqSelf_ev x (by omega)
    have hMx := mark_ev x 1 (by omega) (by omega) (by omega)
    have hM := mark_ev v 1 (by omega) (by omega) (by omega)
    have hH := held_ev v.length 1 (by omega) (by omega) (by omega)
    have n1 : ¬ (1 + (x.length : Int) < 0) := by omega
    have n2 : ¬ (1 + (v.length : Int) < 0) := by omega
    repeat' (first
      | exact Ev.now _
      | (refine Ev.bind (by assumption) ?_)
      | (simp only [if_true, if_false, n1, n2, Bool.not_true, Bool.false_eq_true])
      | (refine Ev.step (fun k => by simp only [laws_FnExactFour.j0]; rfl) ?_))

end Go.Proofs.Ytlmlkoalicjlhaa.Pure
