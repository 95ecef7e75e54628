/- The program's GapOf answers what the reference's GapOf answers, for all pairs of lists, and leaves its arguments as they were. No condition beside the row's own. -/
import Derived.Test.YtokaccgaendhmaaQFnExactGapOfx2
namespace Go.Proofs.Ytokaccgaendhmaa.Pure
open Go.RowKit Go.Proofs.Ytokaccgaendhmaa.QFnExactGapOf Go.Proofs.YtokaccgaendhmaaW.PrintWords Go.Proofs.YtokaccgaendhmaaW.PrintLast Go.Proofs.YtokaccgaendhmaaW.PrintMore
set_option linter.unusedVariables false
set_option linter.unusedSimpArgs false

theorem wrap_id {x : Int} (h0 : -9223372036854775808 ≤ x) (h1 : x ≤ 9223372036854775807) : wrap64 x = x := by
  unfold wrap64
  omega
theorem wf64 {n : Int} (h : (Lit.int .i64 n).wf = true) : -9223372036854775808 ≤ n ∧ n ≤ 9223372036854775807 := by
  simp [Lit.wf, IntKind.min, IntKind.max, IntKind.signed, IntKind.bits] at h
  omega
theorem wfu8 {n : Int} (h : (Lit.int .u8 n).wf = true) : 0 ≤ n ∧ n ≤ 255 := by
  simp [Lit.wf, IntKind.min, IntKind.max, IntKind.signed, IntKind.bits] at h
  omega
theorem within_eq (a b c : Int) : impl_within.f a b c = some (decide (b ≤ a ∧ a ≤ c)) := by
  unfold impl_within.f
  by_cases h : a ≥ b
  · rw [if_pos h]; congr 1; rw [decide_eq_decide]; omega
  · rw [if_neg h]; congr 1; symm; rw [decide_eq_false_iff_not]; omega
theorem in_eq (a b c : Int) : spec_l01In.f a b c = some (decide (b ≤ a ∧ a ≤ c)) := by
  unfold spec_l01In.f
  by_cases h : a ≥ b
  · rw [if_pos h]; congr 1; rw [decide_eq_decide]; omega
  · rw [if_neg h]; congr 1; symm; rw [decide_eq_false_iff_not]; omega

theorem down {P : Nat → Prop} (n : Nat) (h0 : P n) (hs : ∀ i, i < n → P (i + 1) → P i) : ∀ i, i ≤ n → P i := by
  intro i hi
  obtain ⟨d, hd⟩ : ∃ d, d = n - i := ⟨_, rfl⟩
  induction d generalizing i with
  | zero => have : i = n := by omega
            subst this; exact h0
  | succ d ih => exact hs i (by omega) (ih (i + 1) (by omega) (by omega))
theorem rd_nat (l : List Int) (i : Nat) (h : i < l.length) : rd l (i : Int) = l[i] := by
  unfold rd
  rw [List.getD_eq_getElem?_getD, Int.toNat_natCast, List.getElem?_eq_getElem h]; rfl
theorem cast1 (i : Nat) : ((i : Nat) : Int) + 1 = ((i + 1 : Nat) : Int) := rfl
theorem mix_set {α : Type} (l z : List α) (i : Nat) (hi : i < l.length) (hz : i < z.length) : (l.take i ++ z.drop i).set i l[i] = l.take (i + 1) ++ z.drop (i + 1) := by
  rw [List.set_append_right _ _ (by simp; omega)]
  rw [show i - (l.take i).length = 0 by simp; omega]
  rw [List.drop_eq_getElem_cons hz, List.set_cons_zero, List.take_succ_eq_append_getElem hi, List.append_assoc]; rfl
theorem mix_length {α : Type} (l z : List α) (i : Nat) (h : l.length = z.length) (hi : i ≤ l.length) : (l.take i ++ z.drop i).length = l.length := by
  simp; omega
theorem mix_end {α : Type} (l z : List α) (h : l.length = z.length) : l.take l.length ++ z.drop l.length = l := by
  rw [List.take_length, h, List.drop_length, List.append_nil]
theorem mix_zero {α : Type} (l z : List α) : l.take 0 ++ z.drop 0 = z := by simp
theorem drop_cons {α : Type} {l : List α} {i : Nat} (h : i < l.length) : l.drop i = l[i] :: l.drop (i + 1) := List.drop_eq_getElem_cons h
theorem toInts_ev (l : List Int) (hl : l.length ≤ 17592186043904) : Ev (fun k => laws_toIntS.f k l) l := by
  have H : ∀ i, i ≤ l.length → Ev (fun k => laws_toIntS.l0 k l (l.take i ++ (List.replicate l.length (0 : Int)).drop i) (i : Int)) l := by
    refine down l.length ?_ ?_
    · refine Ev.step (f := fun _ => some l) (fun k => ?_) (Ev.now _)
      simp only [laws_toIntS.l0]
      rw [if_neg (by omega), mix_end _ _ (by simp)]
    · intro i hi h
      refine Ev.step (fun k => ?_) h
      simp only [laws_toIntS.l0]
      rw [if_pos (by omega), if_pos (by omega), if_pos (by rw [mix_length _ _ _ (by simp) (by omega)]; omega), rd_nat l i hi, Int.toNat_natCast, mix_set _ _ _ hi (by simp; exact hi), wrap_id (by omega) (by omega), cast1]
  have h0 := H 0 (by omega)
  rw [mix_zero] at h0
  unfold laws_toIntS.f
  refine Ev.congr (fun k => ?_) h0
  rw [if_pos (by omega), if_pos (by simp; omega), Int.toNat_natCast]; rfl
theorem eqInts_ev (a b : List Int) (ha : a.length ≤ 17592186043904) : Ev (fun k => laws_eqIntS.f k a b) (decide (a = b)) := by
  by_cases hl : a.length = b.length
  · have H : ∀ i, i ≤ a.length → Ev (fun k => laws_eqIntS.l0 k a b (i : Int)) (decide (a.drop i = b.drop i)) := by
      refine down a.length ?_ ?_
      · refine Ev.step (f := fun _ => some true) (fun k => ?_) ?_
        · simp only [laws_eqIntS.l0]
          rw [if_neg (by omega)]
        · rw [show decide (a.drop a.length = b.drop a.length) = true by rw [hl]; simp [← hl]]; exact Ev.now _
      · intro i hi h
        have hb : i < b.length := by omega
        by_cases c : a[i] = b[i]
        · have e : decide (a.drop i = b.drop i) = decide (a.drop (i + 1) = b.drop (i + 1)) := by
            rw [decide_eq_decide, drop_cons hi, drop_cons hb, c, List.cons.injEq]; simp only [true_and]
          rw [e]
          refine Ev.step (fun k => ?_) h
          simp only [laws_eqIntS.l0]
          rw [if_pos (by omega), if_pos (by omega), if_pos (by omega), rd_nat a i hi, rd_nat b i hb, if_pos c, wrap_id (by omega) (by omega), cast1]
        · have e : decide (a.drop i = b.drop i) = false := by
            rw [decide_eq_false_iff_not, drop_cons hi, drop_cons hb, List.cons.injEq]; exact fun h => c h.1
          rw [e]
          refine Ev.step (f := fun _ => some false) (fun k => ?_) (Ev.now _)
          simp only [laws_eqIntS.l0]
          rw [if_pos (by omega), if_pos (by omega), if_pos (by omega), rd_nat a i hi, rd_nat b i hb, if_neg c]
    have h0 := H 0 (by omega)
    unfold laws_eqIntS.f
    refine Ev.congr (fun k => ?_) h0
    rw [if_pos (by omega)]; rfl
  · unfold laws_eqIntS.f
    rw [show decide (a = b) = false from decide_eq_false (fun h => hl (by rw [h]))]
    refine Ev.congr (f := fun _ => some false) (fun k => ?_) (Ev.now _)
    rw [if_neg (by omega)]
/-- All numbers of a list are from lo to hi. -/
def allB (lo hi : Int) (l : List Int) : Bool := l.all fun x => decide (lo ≤ x ∧ x ≤ hi)
theorem allB_cons (lo hi x : Int) (l : List Int) : allB lo hi (x :: l) = (decide (lo ≤ x ∧ x ≤ hi) && allB lo hi l) := rfl
theorem allB_iff {lo hi : Int} {l : List Int} : allB lo hi l = true ↔ ∀ x ∈ l, lo ≤ x ∧ x ≤ hi := by
  unfold allB
  rw [List.all_eq_true]
  simp only [decide_eq_true_eq]
theorem areIn_ev (l : List Int) (n lo hi : Int) (hl : l.length ≤ 17592186043904) : Ev (fun k => impl_areIn.f k l n lo hi) (decide ((l.length : Int) = n) && allB lo hi l) := by
  have H : ∀ i, i ≤ l.length → Ev (fun k => impl_areIn.l0 k l n lo hi l (l.length : Int) (i : Int)) (decide ((l.length : Int) = n) && allB lo hi (l.drop i)) := by
    refine down l.length ?_ ?_
    · refine Ev.step (f := fun _ => some (decide ((l.length : Int) = n))) (fun k => ?_) ?_
      · simp only [impl_areIn.l0]
        rw [if_neg (by omega)]; congr 1
      · rw [List.drop_length]; simp only [allB, List.all_nil, Bool.and_true]; exact Ev.now _
    · intro i h1 h
      rw [drop_cons h1, allB_cons]
      by_cases c : lo ≤ l[i] ∧ l[i] ≤ hi
      · rw [decide_eq_true c, Bool.true_and]
        refine Ev.step (fun k => ?_) h
        simp only [impl_areIn.l0]
        rw [if_pos (by omega), if_pos (by omega), if_pos (by omega), rd_nat l i h1, within_eq, Option.bind_some, if_pos (decide_eq_true c), wrap_id (by omega) (by omega), cast1]
      · rw [decide_eq_false c, Bool.false_and, Bool.and_false]
        refine Ev.step (f := fun _ => some false) (fun k => ?_) (Ev.now _)
        simp only [impl_areIn.l0]
        rw [if_pos (by omega), if_pos (by omega), if_pos (by omega), rd_nat l i h1, within_eq, Option.bind_some, if_neg (by simpa using c)]
  exact H 0 (by omega)
theorem all_ev (l : List Int) (n m : Int) (hl : l.length ≤ 17592186043904) (hm : 0 ≤ m) (hm' : m ≤ 1000000000) : Ev (fun k => spec_l09All.f k l n m) (decide ((l.length : Int) = n) && allB (-m) m l) := by
  unfold spec_l09All.f
  by_cases hn : (l.length : Int) = n
  · subst hn
    have H : ∀ i, i ≤ l.length → Ev (fun k => spec_l09All.l0 k l (l.length : Int) m (i : Int)) (allB (-m) m (l.drop i)) := by
      refine down l.length ?_ ?_
      · refine Ev.step (f := fun _ => some true) (fun k => ?_) ?_
        · simp only [spec_l09All.l0]
          rw [if_neg (by omega)]
        · rw [List.drop_length]; exact Ev.now _
      · intro i h1 h
        rw [drop_cons h1, allB_cons]
        by_cases c : -m ≤ l[i] ∧ l[i] ≤ m
        · rw [decide_eq_true c, Bool.true_and]
          refine Ev.step (fun k => ?_) h
          simp only [spec_l09All.l0]
          rw [if_pos (by omega), if_pos (by omega), if_pos (by omega), rd_nat l i h1, wrap_id (x := -m) (by omega) (by omega), in_eq, Option.bind_some, if_pos (decide_eq_true c), wrap_id (by omega) (by omega), cast1]
        · rw [decide_eq_false c, Bool.false_and]
          refine Ev.step (f := fun _ => some false) (fun k => ?_) (Ev.now _)
          simp only [spec_l09All.l0]
          rw [if_pos (by omega), if_pos (by omega), if_pos (by omega), rd_nat l i h1, wrap_id (x := -m) (by omega) (by omega), in_eq, Option.bind_some, if_neg (by simpa using c)]
    refine Ev.congr (fun k => by rw [if_pos rfl]) ?_
    rw [decide_eq_true rfl, Bool.true_and]
    exact H 0 (by omega)
  · rw [decide_eq_false hn, Bool.false_and]
    exact Ev.congr (f := fun _ => some false) (fun k => by rw [if_neg hn]) (Ev.now _)

theorem size_eq (x : Int) : impl_size.f x = some (mx x (wrap64 (-x))) := rfl
theorem sized_eq (x : Int) (h0 : -100000000000 ≤ x) (h1 : x ≤ 100000000000) : spec_l08Sized.f x = some (mx x (wrap64 (-x))) := by
  unfold spec_l08Sized.f mx
  rw [wrap_id (x := -x) (by omega) (by omega)]
  by_cases c : x < 0
  · rw [if_pos c, if_pos (by omega)]
  · rw [if_neg c]
    by_cases c2 : x < -x
    · omega
    · rw [if_neg c2]
theorem mx_neg {x : Int} (h0 : -100000000000 ≤ x) (h1 : x ≤ 100000000000) : mx x (wrap64 (-x)) = if x < 0 then -x else x := by
  rw [wrap_id (by omega) (by omega)]
  unfold mx
  repeat' split <;> omega

/-- What lies between two lists from place i on, added to s. -/
def gsum (a b : List Int) : Nat → Nat → Int → Int
  | 0, _, s => s
  | n + 1, i, s => gsum a b n (i + 1) (wrap64 (s + mx (wrap64 (rd a (i : Int) - rd b (i : Int))) (wrap64 (-(wrap64 (rd a (i : Int) - rd b (i : Int)))))))
theorem gap_loop (a b : List Int) (n : Nat) (ha : a.length = n) (hb : b.length = n) (hn : n ≤ 1000) : ∀ i, i ≤ n → ∀ s, Ev (fun k => impl_gap.l0 k b s a (n : Int) (i : Int)) (gsum a b (n - i) i s) := by
  refine down n ?_ ?_
  · intro s
    rw [Nat.sub_self]
    refine Ev.step (f := fun _ => some s) (fun k => ?_) (Ev.now _)
    simp only [impl_gap.l0]
    rw [if_neg (by omega)]
  · intro i hi hh s
    have e1 : n - i = (n - (i + 1)) + 1 := by omega
    rw [e1]
    refine Ev.step (fun k => ?_) (hh _)
    simp only [impl_gap.l0]
    rw [if_pos (by omega), if_pos (by omega), if_pos (by omega), if_pos (by omega), size_eq, Option.bind_some, wrap_id (x := (i : Int) + 1) (by omega) (by omega), cast1]
theorem gap_ev (a b : List Int) (n : Nat) (ha : a.length = n) (hb : b.length = n) (hn : n ≤ 1000) : Ev (fun k => impl_gap.f k a b) (gsum a b n 0 0) := by
  unfold impl_gap.f
  rw [ha]
  exact gap_loop a b n ha hb hn 0 (by omega) 0
def GapOk (a b : List Int) : Prop := (a.length = 64 ∧ allB (-1000) 1000 a = true) ∧ (b.length = 64 ∧ allB (-1000) 1000 b = true)
instance (a b : List Int) : Decidable (GapOk a b) := by unfold GapOk; infer_instance
theorem len_dec (l : List Int) (n : Nat) (m : Int) (h : m = (n : Int)) : decide ((l.length : Int) = m) = decide (l.length = n) := by rw [decide_eq_decide]; omega
theorem gapof_ev (a b : List Int) (ha : a.length ≤ 17592186043904) (hb : b.length ≤ 17592186043904) : Ev (fun k => impl_GapOf.f k a b) (if GapOk a b then gsum a b 64 0 0 else -1) := by
  unfold impl_GapOf.f
  refine Ev.bind (areIn_ev a 64 (-1000) 1000 ha) ?_
  rw [len_dec a 64 64 rfl]
  by_cases c1 : a.length = 64 ∧ allB (-1000) 1000 a = true
  · rw [decide_eq_true c1.1, c1.2]
    simp only [Bool.and_self, if_true]
    refine Ev.bind (areIn_ev b 64 (-1000) 1000 hb) ?_
    rw [len_dec b 64 64 rfl]
    by_cases c2 : b.length = 64 ∧ allB (-1000) 1000 b = true
    · rw [if_pos ⟨c1, c2⟩, decide_eq_true c2.1, c2.2]
      simp only [Bool.and_self, if_true]
      exact Ev.bind (gap_ev a b 64 c1.1 c2.1 (by omega)) (Ev.now _)
    · rw [if_neg (fun h => c2 h.2)]
      have : (decide (b.length = 64) && allB (-1000) 1000 b) = false := by
        rw [Bool.eq_false_iff]; intro h; rw [Bool.and_eq_true, decide_eq_true_eq] at h; exact c2 h
      simp only [this, Bool.false_eq_true, if_false]; exact Ev.now _
  · rw [if_neg (fun h => c1 h.1)]
    have : (decide (a.length = 64) && allB (-1000) 1000 a) = false := by
      rw [Bool.eq_false_iff]; intro h; rw [Bool.and_eq_true, decide_eq_true_eq] at h; exact c1 h
    simp only [this, Bool.false_eq_true, if_false]; exact Ev.now _
theorem allB_rd {lo hi : Int} {l : List Int} (h : allB lo hi l = true) (i : Nat) (hi' : i < l.length) : lo ≤ rd l (i : Int) ∧ rd l (i : Int) ≤ hi := by
  rw [rd_nat l i hi']; exact allB_iff.1 h _ (List.getElem_mem _)
theorem sgap_loop (a b : List Int) (h : GapOk a b) : ∀ i : Nat, i ≤ 64 → ∀ s, Ev (fun k => spec_GapOf.l0 k a b s (i : Int)) (gsum a b (64 - i) i s) := by
  obtain ⟨⟨ha, ba⟩, hb, bb⟩ := h
  refine down 64 ?_ ?_
  · intro s
    refine Ev.step (f := fun _ => some s) (fun k => ?_) (Ev.now _)
    simp only [spec_GapOf.l0]
    rw [if_neg (by omega)]
  · intro i hi hh s
    have e1 : 64 - i = (64 - (i + 1)) + 1 := by omega
    rw [e1]
    have r1 := allB_rd ba i (by omega)
    have r2 := allB_rd bb i (by omega)
    refine Ev.step (fun k => ?_) (hh _)
    simp only [spec_GapOf.l0]
    rw [if_pos (by omega), if_pos (by omega), if_pos (by omega), if_pos (by omega), sized_eq _ (by rw [wrap_id (by omega) (by omega)]; omega) (by rw [wrap_id (by omega) (by omega)]; omega), Option.bind_some, wrap_id (x := (i : Int) + 1) (by omega) (by omega), cast1]
theorem sgapof_ev (a b : List Int) (ha : a.length ≤ 17592186043904) (hb : b.length ≤ 17592186043904) : Ev (fun k => spec_GapOf.f k a b) (if GapOk a b then gsum a b 64 0 0 else -1) := by
  unfold spec_GapOf.f
  have hbad : Ev (fun k => spec_GapOf.j0 k a b true) (-1) := Ev.step (f := fun _ => some (-1)) (fun k => by simp only [spec_GapOf.j0]; rfl) (Ev.now _)
  refine Ev.bind (all_ev a 64 1000 ha (by omega) (by omega)) ?_
  rw [len_dec a 64 64 rfl]
  by_cases c1 : a.length = 64 ∧ allB (-1000) 1000 a = true
  · rw [decide_eq_true c1.1, c1.2]
    simp only [Bool.and_self, if_true]
    refine Ev.bind (all_ev b 64 1000 hb (by omega) (by omega)) ?_
    rw [len_dec b 64 64 rfl]
    by_cases c2 : b.length = 64 ∧ allB (-1000) 1000 b = true
    · rw [if_pos ⟨c1, c2⟩, decide_eq_true c2.1, c2.2]
      simp only [Bool.and_self, Bool.not_true]
      exact Ev.step (fun k => by simp only [spec_GapOf.j0, Bool.false_eq_true, if_false]; rfl) (sgap_loop a b ⟨c1, c2⟩ 0 (by omega) 0)
    · rw [if_neg (fun h => c2 h.2)]
      have : (decide (b.length = 64) && allB (-1000) 1000 b) = false := by
        rw [Bool.eq_false_iff]; intro h; rw [Bool.and_eq_true, decide_eq_true_eq] at h; exact c2 h
      simp only [this, Bool.not_false]; exact hbad
  · rw [if_neg (fun h => c1 h.1)]
    have : (decide (a.length = 64) && allB (-1000) 1000 a) = false := by
      rw [Bool.eq_false_iff]; intro h; rw [Bool.and_eq_true, decide_eq_true_eq] at h; exact c1 h
    simp only [this, Bool.false_eq_true, if_false]; exact hbad

theorem FnExactGapOf : laws_FnExactGapOf.Pure := by
  intro a b _ ha _ _ hb _
  refine Ev.rounds ?_
  unfold laws_FnExactGapOf.f
  by_cases c : (a.length : Int) > 1048576
  · simp only [c, if_true]; exact Ev.now _
  · by_cases c2 : (b.length : Int) > 1048576
    · simp only [c, c2, if_true, if_false]; exact Ev.now _
    · simp only [c, c2, if_false]
      have hA := toInts_ev a (by omega)
      have hB := toInts_ev b (by omega)
      have hS := sgapof_ev a b (by omega) (by omega)
      have hI := gapof_ev a b (by omega) (by omega)
      have hEa := eqInts_ev a a (by omega)
      have hEb := eqInts_ev b b (by omega)
      repeat' (first
        | exact Ev.now _
        | (refine Ev.bind (by assumption) ?_)
        | (simp only [if_true, decide_true]))

end Go.Proofs.Ytokaccgaendhmaa.Pure
