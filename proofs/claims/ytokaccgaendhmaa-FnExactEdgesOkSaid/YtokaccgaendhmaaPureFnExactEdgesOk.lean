/- The program's EdgesOk answers what the reference's EdgesOk answers, for all edges, and leaves its argument as it was. No condition beside the row's own. -/
import Derived.Test.YtokaccgaendhmaaQFnExactEdgesOkx3
namespace Go.Proofs.Ytokaccgaendhmaa.Pure
open Go.RowKit Go.Proofs.Ytokaccgaendhmaa.QFnExactEdgesOk Go.Proofs.YtokaccgaendhmaaW.PrintWords Go.Proofs.YtokaccgaendhmaaW.PrintLast Go.Proofs.YtokaccgaendhmaaW.PrintMore
set_option linter.unusedVariables false
set_option linter.unusedSimpArgs false

theorem wrap_id {x : Int} (h0 : -9223372036854775808 ≤ x) (h1 : x ≤ 9223372036854775807) : wrap64 x = x := by
  unfold wrap64
  omega
theorem wf64 {n : Int} (h : (Lit.int .i64 n).wf = true) : -9223372036854775808 ≤ n ∧ n ≤ 9223372036854775807 := by
  simp [Lit.wf, IntKind.min, IntKind.max, IntKind.signed, IntKind.bits] at h
  omega
theorem wfu8 {n : Int} (h : (Lit.int .u8 n).wf = true) : 0 ≤ n ∧ n ≤ 255 := by
  simp [Lit.wf, IntKind.min, IntKind.max, IntKind.signed, IntKind.bits] at h
  omega
theorem within_eq (a b c : Int) : impl_within.f a b c = some (decide (b ≤ a ∧ a ≤ c)) := by
  unfold impl_within.f
  by_cases h : a ≥ b
  · rw [if_pos h]; congr 1; rw [decide_eq_decide]; omega
  · rw [if_neg h]; congr 1; symm; rw [decide_eq_false_iff_not]; omega
theorem in_eq (a b c : Int) : spec_l01In.f a b c = some (decide (b ≤ a ∧ a ≤ c)) := by
  unfold spec_l01In.f
  by_cases h : a ≥ b
  · rw [if_pos h]; congr 1; rw [decide_eq_decide]; omega
  · rw [if_neg h]; congr 1; symm; rw [decide_eq_false_iff_not]; omega

theorem down {P : Nat → Prop} (n : Nat) (h0 : P n) (hs : ∀ i, i < n → P (i + 1) → P i) : ∀ i, i ≤ n → P i := by
  intro i hi
  obtain ⟨d, hd⟩ : ∃ d, d = n - i := ⟨_, rfl⟩
  induction d generalizing i with
  | zero => have : i = n := by omega
            subst this; exact h0
  | succ d ih => exact hs i (by omega) (ih (i + 1) (by omega) (by omega))
theorem rd_nat (l : List Int) (i : Nat) (h : i < l.length) : rd l (i : Int) = l[i] := by
  unfold rd
  rw [List.getD_eq_getElem?_getD, Int.toNat_natCast, List.getElem?_eq_getElem h]; rfl
theorem cast1 (i : Nat) : ((i : Nat) : Int) + 1 = ((i + 1 : Nat) : Int) := rfl
theorem mix_set {α : Type} (l z : List α) (i : Nat) (hi : i < l.length) (hz : i < z.length) : (l.take i ++ z.drop i).set i l[i] = l.take (i + 1) ++ z.drop (i + 1) := by
  rw [List.set_append_right _ _ (by simp; omega)]
  rw [show i - (l.take i).length = 0 by simp; omega]
  rw [List.drop_eq_getElem_cons hz, List.set_cons_zero, List.take_succ_eq_append_getElem hi, List.append_assoc]; rfl
theorem mix_length {α : Type} (l z : List α) (i : Nat) (h : l.length = z.length) (hi : i ≤ l.length) : (l.take i ++ z.drop i).length = l.length := by
  simp; omega
theorem mix_end {α : Type} (l z : List α) (h : l.length = z.length) : l.take l.length ++ z.drop l.length = l := by
  rw [List.take_length, h, List.drop_length, List.append_nil]
theorem mix_zero {α : Type} (l z : List α) : l.take 0 ++ z.drop 0 = z := by simp
theorem drop_cons {α : Type} {l : List α} {i : Nat} (h : i < l.length) : l.drop i = l[i] :: l.drop (i + 1) := List.drop_eq_getElem_cons h
theorem toInts_ev (l : List Int) (hl : l.length ≤ 17592186043904) : Ev (fun k => laws_toIntS.f k l) l := by
  have H : ∀ i, i ≤ l.length → Ev (fun k => laws_toIntS.l0 k l (l.take i ++ (List.replicate l.length (0 : Int)).drop i) (i : Int)) l := by
    refine down l.length ?_ ?_
    · refine Ev.step (f := fun _ => some l) (fun k => ?_) (Ev.now _)
      simp only [laws_toIntS.l0]
      rw [if_neg (by omega), mix_end _ _ (by simp)]
    · intro i hi h
      refine Ev.step (fun k => ?_) h
      simp only [laws_toIntS.l0]
      rw [if_pos (by omega), if_pos (by omega), if_pos (by rw [mix_length _ _ _ (by simp) (by omega)]; omega), rd_nat l i hi, Int.toNat_natCast, mix_set _ _ _ hi (by simp; exact hi), wrap_id (by omega) (by omega), cast1]
  have h0 := H 0 (by omega)
  rw [mix_zero] at h0
  unfold laws_toIntS.f
  refine Ev.congr (fun k => ?_) h0
  rw [if_pos (by omega), if_pos (by simp; omega), Int.toNat_natCast]; rfl
theorem eqInts_ev (a b : List Int) (ha : a.length ≤ 17592186043904) : Ev (fun k => laws_eqIntS.f k a b) (decide (a = b)) := by
  by_cases hl : a.length = b.length
  · have H : ∀ i, i ≤ a.length → Ev (fun k => laws_eqIntS.l0 k a b (i : Int)) (decide (a.drop i = b.drop i)) := by
      refine down a.length ?_ ?_
      · refine Ev.step (f := fun _ => some true) (fun k => ?_) ?_
        · simp only [laws_eqIntS.l0]
          rw [if_neg (by omega)]
        · rw [show decide (a.drop a.length = b.drop a.length) = true by rw [hl]; simp [← hl]]; exact Ev.now _
      · intro i hi h
        have hb : i < b.length := by omega
        by_cases c : a[i] = b[i]
        · have e : decide (a.drop i = b.drop i) = decide (a.drop (i + 1) = b.drop (i + 1)) := by
            rw [decide_eq_decide, drop_cons hi, drop_cons hb, c, List.cons.injEq]; simp only [true_and]
          rw [e]
          refine Ev.step (fun k => ?_) h
          simp only [laws_eqIntS.l0]
          rw [if_pos (by omega), if_pos (by omega), if_pos (by omega), rd_nat a i hi, rd_nat b i hb, if_pos c, wrap_id (by omega) (by omega), cast1]
        · have e : decide (a.drop i = b.drop i) = false := by
            rw [decide_eq_false_iff_not, drop_cons hi, drop_cons hb, List.cons.injEq]; exact fun h => c h.1
          rw [e]
          refine Ev.step (f := fun _ => some false) (fun k => ?_) (Ev.now _)
          simp only [laws_eqIntS.l0]
          rw [if_pos (by omega), if_pos (by omega), if_pos (by omega), rd_nat a i hi, rd_nat b i hb, if_neg c]
    have h0 := H 0 (by omega)
    unfold laws_eqIntS.f
    refine Ev.congr (fun k => ?_) h0
    rw [if_pos (by omega)]; rfl
  · unfold laws_eqIntS.f
    rw [show decide (a = b) = false from decide_eq_false (fun h => hl (by rw [h]))]
    refine Ev.congr (f := fun _ => some false) (fun k => ?_) (Ev.now _)
    rw [if_neg (by omega)]
/-- All numbers of a list are from lo to hi. -/
def allB (lo hi : Int) (l : List Int) : Bool := l.all fun x => decide (lo ≤ x ∧ x ≤ hi)
theorem allB_cons (lo hi x : Int) (l : List Int) : allB lo hi (x :: l) = (decide (lo ≤ x ∧ x ≤ hi) && allB lo hi l) := rfl
theorem allB_iff {lo hi : Int} {l : List Int} : allB lo hi l = true ↔ ∀ x ∈ l, lo ≤ x ∧ x ≤ hi := by
  unfold allB
  rw [List.all_eq_true]
  simp only [decide_eq_true_eq]
theorem areIn_ev (l : List Int) (n lo hi : Int) (hl : l.length ≤ 17592186043904) : Ev (fun k => impl_areIn.f k l n lo hi) (decide ((l.length : Int) = n) && allB lo hi l) := by
  have H : ∀ i, i ≤ l.length → Ev (fun k => impl_areIn.l0 k l n lo hi l (l.length : Int) (i : Int)) (decide ((l.length : Int) = n) && allB lo hi (l.drop i)) := by
    refine down l.length ?_ ?_
    · refine Ev.step (f := fun _ => some (decide ((l.length : Int) = n))) (fun k => ?_) ?_
      · simp only [impl_areIn.l0]
        rw [if_neg (by omega)]; congr 1
      · rw [List.drop_length]; simp only [allB, List.all_nil, Bool.and_true]; exact Ev.now _
    · intro i h1 h
      rw [drop_cons h1, allB_cons]
      by_cases c : lo ≤ l[i] ∧ l[i] ≤ hi
      · rw [decide_eq_true c, Bool.true_and]
        refine Ev.step (fun k => ?_) h
        simp only [impl_areIn.l0]
        rw [if_pos (by omega), if_pos (by omega), if_pos (by omega), rd_nat l i h1, within_eq, Option.bind_some, if_pos (decide_eq_true c), wrap_id (by omega) (by omega), cast1]
      · rw [decide_eq_false c, Bool.false_and, Bool.and_false]
        refine Ev.step (f := fun _ => some false) (fun k => ?_) (Ev.now _)
        simp only [impl_areIn.l0]
        rw [if_pos (by omega), if_pos (by omega), if_pos (by omega), rd_nat l i h1, within_eq, Option.bind_some, if_neg (by simpa using c)]
  exact H 0 (by omega)

/-- A side of edges is right: nothing, or eight dots. -/
def sideB (l : List Int) : Bool := decide (l.length = 0) || (decide (l.length = 8) && allB 0 255 l)
def edgesB (a l : List Int) (c : Int) : Bool := sideB a && (sideB l && decide (-1 ≤ c ∧ c ≤ 255))
theorem len_dec' (l : List Int) (n : Nat) (m : Int) (h : m = (n : Int)) : decide ((l.length : Int) = m) = decide (l.length = n) := by rw [decide_eq_decide]; omega
theorem side_loop (l : List Int) (hl : l.length ≤ 17592186043904) : ∀ i, i ≤ l.length → Ev (fun k => spec_l13Side.l0 k l (i : Int)) (allB 0 255 (l.drop i)) := by
  refine down l.length ?_ ?_
  · refine Ev.step (f := fun _ => some true) (fun k => ?_) (by rw [List.drop_length]; exact Ev.now _)
    simp only [spec_l13Side.l0]
    rw [if_neg (by omega)]
  · intro i h1 h
    rw [drop_cons h1, allB_cons]
    by_cases c : 0 ≤ l[i] ∧ l[i] ≤ 255
    · rw [decide_eq_true c, Bool.true_and]
      refine Ev.step (fun k => ?_) h
      simp only [spec_l13Side.l0]
      rw [if_pos (by omega), if_pos (by omega), rd_nat l i h1, in_eq, Option.bind_some, if_pos (decide_eq_true c), wrap_id (by omega) (by omega), cast1]
    · rw [decide_eq_false c, Bool.false_and]
      refine Ev.step (f := fun _ => some false) (fun k => ?_) (Ev.now _)
      simp only [spec_l13Side.l0]
      rw [if_pos (by omega), if_pos (by omega), rd_nat l i h1, in_eq, Option.bind_some, if_neg (by simpa using c)]
theorem side_ev (l : List Int) (hl : l.length ≤ 17592186043904) : Ev (fun k => spec_l13Side.f k l) (sideB l) := by
  unfold spec_l13Side.f sideB
  by_cases c0 : l.length = 0
  · have e : l = [] := List.eq_nil_of_length_eq_zero c0
    subst e
    refine Ev.congr (f := fun k => spec_l13Side.j0 k [] false) (fun k => rfl) (Ev.step (fun k => by simp only [spec_l13Side.j0, Bool.false_eq_true, if_false]; rfl) ?_)
    exact side_loop [] (by simp) 0 (by simp)
  · rw [decide_eq_false c0, Bool.false_or]
    by_cases c8 : l.length = 8
    · rw [decide_eq_true c8, Bool.true_and]
      refine Ev.congr (fun k => by rw [if_neg (by omega), show ((l.length : Int) != 8) = false by rw [bne_eq_false_iff_eq]; omega]) (Ev.step (fun k => by simp only [spec_l13Side.j0, Bool.false_eq_true, if_false]; rfl) ?_)
      exact side_loop l hl 0 (by omega)
    · rw [decide_eq_false c8, Bool.false_and]
      refine Ev.congr (fun k => by rw [if_neg (by omega), show ((l.length : Int) != 8) = true by rw [bne_iff_ne]; omega]) (Ev.step (f := fun _ => some false) (fun k => by simp only [spec_l13Side.j0]; rfl) (Ev.now _))
theorem sedges_ev (a l : List Int) (c : Int) (ha : a.length ≤ 17592186043904) (hl : l.length ≤ 17592186043904) : Ev (fun k => spec_EdgesOk.f k a l c) (edgesB a l c) := by
  unfold spec_EdgesOk.f edgesB
  refine Ev.bind (side_ev a ha) ?_
  cases sideB a with
  | false => simp only [Bool.false_eq_true, if_false, Bool.false_and]; exact Ev.now _
  | true =>
    simp only [if_true, Bool.true_and]
    refine Ev.bind (side_ev l hl) ?_
    cases sideB l with
    | false => simp only [Bool.false_eq_true, if_false, Bool.false_and]; exact Ev.now _
    | true =>
      simp only [if_true, Bool.true_and, in_eq, Option.bind_some]
      exact Ev.now _
theorem edge_round (a b l : List Int) (c : Int) (i : Int) (r : Bool) (x y : List Int) (hx : rd_L1 [x, y] i = a) (hi : i = 0 ∨ i = 1) (ha : a.length ≤ 17592186043904)
    (h : Ev (fun k => impl_EdgesOk.l0 k [x, y] 2 (i + 1) b l c) r) : Ev (fun k => impl_EdgesOk.l0 k [x, y] 2 i b l c) (sideB a && r) := by
  unfold sideB
  have hlen : (([x, y] : List (List Int)).length : Int) = 2 := rfl
  by_cases c0 : a.length = 0
  · rw [decide_eq_true c0, Bool.true_or, Bool.true_and]
    refine Ev.step (fun k => ?_) h
    simp only [impl_EdgesOk.l0]
    rw [if_pos (by omega), if_pos (by omega), if_pos (by omega), hx, if_neg (by omega), wrap_id (by omega) (by omega)]
  · rw [decide_eq_false c0, Bool.false_or]
    refine Ev.step (f := fun k => (impl_areIn.f k a 8 0 255).bind fun t => (if t = true then (impl_EdgesOk.l0 k [x, y] 2 (i + 1) b l c) else (some false))) (fun k => ?_) (Ev.bind (areIn_ev a 8 0 255 ha) ?_)
    · simp only [impl_EdgesOk.l0]
      rw [if_pos (by omega), if_pos (by omega), if_pos (by omega), hx, if_pos (by omega), wrap_id (by omega) (by omega)]
    · rw [len_dec' a 8 8 rfl]
      cases (decide (a.length = 8) && allB 0 255 a) with
      | false => simp only [Bool.false_eq_true, if_false, Bool.false_and]; exact Ev.now _
      | true => simp only [if_true, Bool.true_and]; exact h
theorem edges_ev (a l : List Int) (c : Int) (ha : a.length ≤ 17592186043904) (hl : l.length ≤ 17592186043904) : Ev (fun k => impl_EdgesOk.f k a l c) (edgesB a l c) := by
  unfold impl_EdgesOk.f edgesB
  simp only [Option.bind_some]
  refine edge_round a a l c 0 _ a l rfl (.inl rfl) ha ?_
  refine edge_round l a l c 1 _ a l rfl (.inr rfl) hl ?_
  refine Ev.step (f := fun _ => some (decide (-1 ≤ c ∧ c ≤ 255))) (fun k => ?_) (Ev.now _)
  simp only [impl_EdgesOk.l0]
  rw [if_neg (by omega), within_eq]
  rfl
theorem toEdges_ev (a l : List Int) (c : Int) (ha : a.length ≤ 17592186043904) (hl : l.length ≤ 17592186043904) : Ev (fun k => laws_toEdges.f k a l c) (a, l, c) := by
  unfold laws_toEdges.f
  exact Ev.bind (toInts_ev a ha) (Ev.bind (toInts_ev l hl) (Ev.now _))
theorem eqEdges_self (a l : List Int) (c : Int) (ha : a.length ≤ 17592186043904) (hl : l.length ≤ 17592186043904) : Ev (fun k => laws_eqEdges.f k a l c a l c) true := by
  unfold laws_eqEdges.f
  refine Ev.bind (eqInts_ev a a ha) ?_
  simp only [decide_true, if_true]
  refine Ev.bind (eqInts_ev l l hl) ?_
  simp only [decide_true, if_true]
  exact Ev.now _
theorem szInts_eq (l : List Int) (a : Int) (hl : l.length ≤ maxLen) (h0 : 0 ≤ a) (h1 : a ≤ 1048576) : ∃ r, laws_szIntS.f l a = some r ∧ (r = -1 ∨ (r = a - (l.length : Int) ∧ 0 ≤ r)) := by
  unfold maxLen at hl
  unfold laws_szIntS.f
  rw [wrap_id (by omega) (by omega)]
  by_cases c : a - (l.length : Int) < 0
  · rw [if_pos c]; exact ⟨_, rfl, .inl rfl⟩
  · rw [if_neg c]; exact ⟨_, rfl, .inr ⟨rfl, by omega⟩⟩
theorem szEdges_eq (a l : List Int) (c : Int) (ha : a.length ≤ maxLen) (hl : l.length ≤ maxLen) (s : Int) (h0 : 0 ≤ s) (h1 : s ≤ 1048576) : ∃ r, laws_szEdges.f a l c s = some r ∧ (r < 0 ∨ (a.length ≤ 1048576 ∧ l.length ≤ 1048576 ∧ 0 ≤ r ∧ r ≤ s)) := by
  unfold laws_szEdges.f
  obtain ⟨r, e, hr⟩ := szInts_eq a s ha h0 h1
  rw [e, Option.bind_some]
  by_cases c1 : r < 0
  · rw [if_pos c1]; exact ⟨_, rfl, .inl (by omega)⟩
  · rw [if_neg c1]
    obtain ⟨r2, e2, hr2⟩ := szInts_eq l r hl (by omega) (by omega)
    rw [e2, Option.bind_some]
    by_cases c2 : r2 < 0
    · rw [if_pos c2]; exact ⟨_, rfl, .inl (by omega)⟩
    · rw [if_neg c2]; exact ⟨_, rfl, .inr (by omega)⟩

theorem FnExactEdgesOk : laws_FnExactEdgesOk.Pure := by
  intro a l c ha _ hl _ _
  refine Ev.rounds ?_
  unfold laws_FnExactEdgesOk.f
  obtain ⟨r, e, hr⟩ := szEdges_eq a l c ha hl 1048576 (by omega) (by omega)
  rw [e]
  simp only [Option.bind_some]
  by_cases c1 : r < 0
  · simp only [c1, if_true]; exact Ev.now _
  · simp only [c1, if_false]
    have hT := toEdges_ev a l c (by omega) (by omega)
    have hS := sedges_ev a l c (by omega) (by omega)
    have hI := edges_ev a l c (by omega) (by omega)
    have hE := eqEdges_self a l c (by omega) (by omega)
    repeat' (first
      | exact Ev.now _
      | (refine Ev.bind (by assumption) ?_)
      | (simp only [if_true, if_false, bne_self_eq_false, Bool.false_eq_true]))

end Go.Proofs.Ytokaccgaendhmaa.Pure
