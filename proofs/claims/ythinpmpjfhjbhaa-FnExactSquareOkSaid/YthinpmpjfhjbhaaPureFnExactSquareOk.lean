/- The program's SquareOk answers what the reference's SquareOk answers, for all squares, and leaves its argument as it was. No condition beside the row's own. -/
import Derived.Test.YthinpmpjfhjbhaaQFnExactSquareOkx2
namespace Go.Proofs.Ythinpmpjfhjbhaa.Pure
open Go.RowKit Go.Proofs.Ythinpmpjfhjbhaa.QFnExactSquareOk Go.Proofs.YthinpmpjfhjbhaaW.PrintWords Go.Proofs.YthinpmpjfhjbhaaW.PrintLast Go.Proofs.YthinpmpjfhjbhaaW.PrintMore
set_option linter.unusedVariables false
set_option linter.unusedSimpArgs false

theorem wrap_id {x : Int} (h0 : -9223372036854775808 ≤ x) (h1 : x ≤ 9223372036854775807) : wrap64 x = x := by
  unfold wrap64
  omega
theorem wf64 {n : Int} (h : (Lit.int .i64 n).wf = true) : -9223372036854775808 ≤ n ∧ n ≤ 9223372036854775807 := by
  simp [Lit.wf, IntKind.min, IntKind.max, IntKind.signed, IntKind.bits] at h
  omega
theorem wfu8 {n : Int} (h : (Lit.int .u8 n).wf = true) : 0 ≤ n ∧ n ≤ 255 := by
  simp [Lit.wf, IntKind.min, IntKind.max, IntKind.signed, IntKind.bits] at h
  omega
theorem within_eq (a b c : Int) : impl_within.f a b c = some (decide (b ≤ a ∧ a ≤ c)) := by
  unfold impl_within.f
  by_cases h : a ≥ b
  · rw [if_pos h]; congr 1; rw [decide_eq_decide]; omega
  · rw [if_neg h]; congr 1; symm; rw [decide_eq_false_iff_not]; omega
theorem in_eq (a b c : Int) : spec_l01In.f a b c = some (decide (b ≤ a ∧ a ≤ c)) := by
  unfold spec_l01In.f
  by_cases h : a ≥ b
  · rw [if_pos h]; congr 1; rw [decide_eq_decide]; omega
  · rw [if_neg h]; congr 1; symm; rw [decide_eq_false_iff_not]; omega

theorem down {P : Nat → Prop} (n : Nat) (h0 : P n) (hs : ∀ i, i < n → P (i + 1) → P i) : ∀ i, i ≤ n → P i := by
  intro i hi
  obtain ⟨d, hd⟩ : ∃ d, d = n - i := ⟨_, rfl⟩
  induction d generalizing i with
  | zero => have : i = n := by omega
            subst this; exact h0
  | succ d ih => exact hs i (by omega) (ih (i + 1) (by omega) (by omega))
theorem rd_nat (l : List Int) (i : Nat) (h : i < l.length) : rd l (i : Int) = l[i] := by
  unfold rd
  rw [List.getD_eq_getElem?_getD, Int.toNat_natCast, List.getElem?_eq_getElem h]; rfl
theorem cast1 (i : Nat) : ((i : Nat) : Int) + 1 = ((i + 1 : Nat) : Int) := rfl
theorem mix_set {α : Type} (l z : List α) (i : Nat) (hi : i < l.length) (hz : i < z.length) : (l.take i ++ z.drop i).set i l[i] = l.take (i + 1) ++ z.drop (i + 1) := by
  rw [List.set_append_right _ _ (by simp; omega)]
  rw [show i - (l.take i).length = 0 by simp; omega]
  rw [List.drop_eq_getElem_cons hz, List.set_cons_zero, List.take_succ_eq_append_getElem hi, List.append_assoc]; rfl
theorem mix_length {α : Type} (l z : List α) (i : Nat) (h : l.length = z.length) (hi : i ≤ l.length) : (l.take i ++ z.drop i).length = l.length := by
  simp; omega
theorem mix_end {α : Type} (l z : List α) (h : l.length = z.length) : l.take l.length ++ z.drop l.length = l := by
  rw [List.take_length, h, List.drop_length, List.append_nil]
theorem mix_zero {α : Type} (l z : List α) : l.take 0 ++ z.drop 0 = z := by simp
theorem drop_cons {α : Type} {l : List α} {i : Nat} (h : i < l.length) : l.drop i = l[i] :: l.drop (i + 1) := List.drop_eq_getElem_cons h
theorem toInts_ev (l : List Int) (hl : l.length ≤ 17592186043904) : Ev (fun k => laws_toIntS.f k l) l := by
  have H : ∀ i, i ≤ l.length → Ev (fun k => laws_toIntS.l0 k l (l.take i ++ (List.replicate l.length (0 : Int)).drop i) (i : Int)) l := by
    refine down l.length ?_ ?_
    · refine Ev.step (f := fun _ => some l) (fun k => ?_) (Ev.now _)
      simp only [laws_toIntS.l0]
      rw [if_neg (by omega), mix_end _ _ (by simp)]
    · intro i hi h
      refine Ev.step (fun k => ?_) h
      simp only [laws_toIntS.l0]
      rw [if_pos (by omega), if_pos (by omega), if_pos (by rw [mix_length _ _ _ (by simp) (by omega)]; omega), rd_nat l i hi, Int.toNat_natCast, mix_set _ _ _ hi (by simp; exact hi), wrap_id (by omega) (by omega), cast1]
  have h0 := H 0 (by omega)
  rw [mix_zero] at h0
  unfold laws_toIntS.f
  refine Ev.congr (fun k => ?_) h0
  rw [if_pos (by omega), if_pos (by simp; omega), Int.toNat_natCast]; rfl
theorem eqInts_ev (a b : List Int) (ha : a.length ≤ 17592186043904) : Ev (fun k => laws_eqIntS.f k a b) (decide (a = b)) := by
  by_cases hl : a.length = b.length
  · have H : ∀ i, i ≤ a.length → Ev (fun k => laws_eqIntS.l0 k a b (i : Int)) (decide (a.drop i = b.drop i)) := by
      refine down a.length ?_ ?_
      · refine Ev.step (f := fun _ => some true) (fun k => ?_) ?_
        · simp only [laws_eqIntS.l0]
          rw [if_neg (by omega)]
        · rw [show decide (a.drop a.length = b.drop a.length) = true by rw [hl]; simp [← hl]]; exact Ev.now _
      · intro i hi h
        have hb : i < b.length := by omega
        by_cases c : a[i] = b[i]
        · have e : decide (a.drop i = b.drop i) = decide (a.drop (i + 1) = b.drop (i + 1)) := by
            rw [decide_eq_decide, drop_cons hi, drop_cons hb, c, List.cons.injEq]; simp only [true_and]
          rw [e]
          refine Ev.step (fun k => ?_) h
          simp only [laws_eqIntS.l0]
          rw [if_pos (by omega), if_pos (by omega), if_pos (by omega), rd_nat a i hi, rd_nat b i hb, if_pos c, wrap_id (by omega) (by omega), cast1]
        · have e : decide (a.drop i = b.drop i) = false := by
            rw [decide_eq_false_iff_not, drop_cons hi, drop_cons hb, List.cons.injEq]; exact fun h => c h.1
          rw [e]
          refine Ev.step (f := fun _ => some false) (fun k => ?_) (Ev.now _)
          simp only [laws_eqIntS.l0]
          rw [if_pos (by omega), if_pos (by omega), if_pos (by omega), rd_nat a i hi, rd_nat b i hb, if_neg c]
    have h0 := H 0 (by omega)
    unfold laws_eqIntS.f
    refine Ev.congr (fun k => ?_) h0
    rw [if_pos (by omega)]; rfl
  · unfold laws_eqIntS.f
    rw [show decide (a = b) = false from decide_eq_false (fun h => hl (by rw [h]))]
    refine Ev.congr (f := fun _ => some false) (fun k => ?_) (Ev.now _)
    rw [if_neg (by omega)]
/-- All numbers of a list are from lo to hi. -/
def allB (lo hi : Int) (l : List Int) : Bool := l.all fun x => decide (lo ≤ x ∧ x ≤ hi)
theorem allB_cons (lo hi x : Int) (l : List Int) : allB lo hi (x :: l) = (decide (lo ≤ x ∧ x ≤ hi) && allB lo hi l) := rfl
theorem allB_iff {lo hi : Int} {l : List Int} : allB lo hi l = true ↔ ∀ x ∈ l, lo ≤ x ∧ x ≤ hi := by
  unfold allB
  rw [List.all_eq_true]
  simp only [decide_eq_true_eq]
theorem areIn_ev (l : List Int) (n lo hi : Int) (hl : l.length ≤ 17592186043904) : Ev (fun k => impl_areIn.f k l n lo hi) (decide ((l.length : Int) = n) && allB lo hi l) := by
  have H : ∀ i, i ≤ l.length → Ev (fun k => impl_areIn.l0 k l n lo hi l (l.length : Int) (i : Int)) (decide ((l.length : Int) = n) && allB lo hi (l.drop i)) := by
    refine down l.length ?_ ?_
    · refine Ev.step (f := fun _ => some (decide ((l.length : Int) = n))) (fun k => ?_) ?_
      · simp only [impl_areIn.l0]
        rw [if_neg (by omega)]; congr 1
      · rw [List.drop_length]; simp only [allB, List.all_nil, Bool.and_true]; exact Ev.now _
    · intro i h1 h
      rw [drop_cons h1, allB_cons]
      by_cases c : lo ≤ l[i] ∧ l[i] ≤ hi
      · rw [decide_eq_true c, Bool.true_and]
        refine Ev.step (fun k => ?_) h
        simp only [impl_areIn.l0]
        rw [if_pos (by omega), if_pos (by omega), if_pos (by omega), rd_nat l i h1, within_eq, Option.bind_some, if_pos (decide_eq_true c), wrap_id (by omega) (by omega), cast1]
      · rw [decide_eq_false c, Bool.false_and, Bool.and_false]
        refine Ev.step (f := fun _ => some false) (fun k => ?_) (Ev.now _)
        simp only [impl_areIn.l0]
        rw [if_pos (by omega), if_pos (by omega), if_pos (by omega), rd_nat l i h1, within_eq, Option.bind_some, if_neg (by simpa using c)]
  exact H 0 (by omega)
theorem all_ev (l : List Int) (n m : Int) (hl : l.length ≤ 17592186043904) (hm : 0 ≤ m) (hm' : m ≤ 1000000000) : Ev (fun k => spec_l09All.f k l n m) (decide ((l.length : Int) = n) && allB (-m) m l) := by
  unfold spec_l09All.f
  by_cases hn : (l.length : Int) = n
  · subst hn
    have H : ∀ i, i ≤ l.length → Ev (fun k => spec_l09All.l0 k l (l.length : Int) m (i : Int)) (allB (-m) m (l.drop i)) := by
      refine down l.length ?_ ?_
      · refine Ev.step (f := fun _ => some true) (fun k => ?_) ?_
        · simp only [spec_l09All.l0]
          rw [if_neg (by omega)]
        · rw [List.drop_length]; exact Ev.now _
      · intro i h1 h
        rw [drop_cons h1, allB_cons]
        by_cases c : -m ≤ l[i] ∧ l[i] ≤ m
        · rw [decide_eq_true c, Bool.true_and]
          refine Ev.step (fun k => ?_) h
          simp only [spec_l09All.l0]
          rw [if_pos (by omega), if_pos (by omega), if_pos (by omega), rd_nat l i h1, wrap_id (x := -m) (by omega) (by omega), in_eq, Option.bind_some, if_pos (decide_eq_true c), wrap_id (by omega) (by omega), cast1]
        · rw [decide_eq_false c, Bool.false_and]
          refine Ev.step (f := fun _ => some false) (fun k => ?_) (Ev.now _)
          simp only [spec_l09All.l0]
          rw [if_pos (by omega), if_pos (by omega), if_pos (by omega), rd_nat l i h1, wrap_id (x := -m) (by omega) (by omega), in_eq, Option.bind_some, if_neg (by simpa using c)]
    refine Ev.congr (fun k => by rw [if_pos rfl]) ?_
    rw [decide_eq_true rfl, Bool.true_and]
    exact H 0 (by omega)
  · rw [decide_eq_false hn, Bool.false_and]
    exact Ev.congr (f := fun _ => some false) (fun k => by rw [if_neg hn]) (Ev.now _)

theorem len_decs (l : List Int) (n : Nat) (m : Int) (h : m = (n : Int)) : decide ((l.length : Int) = m) = decide (l.length = n) := by rw [decide_eq_decide]; omega
def levB (l : List Int) : Bool := decide (l.length = 64) && allB (-5000) 5000 l
/-- What a right square is. -/
def sqB (kd mode dx dy : Int) (l : List Int) : Bool :=
  if kd = 0 then decide (mode = 0) && (decide (dx = 0) && (decide (dy = 0) && decide (l.length = 0)))
  else if kd = 1 then decide (mode = 0) && (decide (-16 ≤ dx ∧ dx ≤ 16) && (decide (-16 ≤ dy ∧ dy ≤ 16) && levB l))
  else if kd = 2 then decide (0 ≤ mode ∧ mode ≤ 3) && (decide (dx = 0) && (decide (dy = 0) && levB l))
  else false
theorem levels_ev (l : List Int) (hl : l.length ≤ 17592186043904) : Ev (fun k => impl_areLevels.f k l) (levB l) := by
  unfold impl_areLevels.f levB
  have h := areIn_ev l 64 (-5000) 5000 hl
  rw [len_decs l 64 64 rfl] at h
  exact Ev.bind h (Ev.now _)
theorem slevels_ev (l : List Int) (hl : l.length ≤ 17592186043904) : Ev (fun k => spec_l09All.f k l 64 5000) (levB l) := by
  unfold levB
  have h := all_ev l 64 5000 hl (by omega) (by omega)
  rwa [len_decs l 64 64 rfl] at h
theorem len0 (l : List Int) : ((l.length : Int) == 0) = decide (l.length = 0) := by
  rw [Bool.eq_iff_iff, beq_iff_eq, decide_eq_true_eq]; omega
theorem sqok_ev (kd mode dx dy : Int) (l : List Int) (hl : l.length ≤ 17592186043904) : Ev (fun k => impl_SquareOk.f k kd mode dx dy l) (sqB kd mode dx dy l) := by
  have hL := levels_ev l hl
  unfold impl_SquareOk.f sqB
  simp only [within_eq, Option.bind_some, len0]
  by_cases k0 : kd = 0
  · simp only [if_pos k0]
    by_cases a : mode = 0 <;> by_cases b : dx = 0 <;> by_cases c : dy = 0 <;> simp only [a, b, c, if_true, if_false, decide_true, decide_false, Bool.true_and, Bool.false_and] <;> exact Ev.now _
  · by_cases k1 : kd = 1
    · simp only [if_neg k0, if_pos k1]
      by_cases a : mode = 0
      · by_cases b : -16 ≤ dx ∧ dx ≤ 16
        · by_cases c : -16 ≤ dy ∧ dy ≤ 16
          · simp only [a, b, c, and_self, if_true, decide_true, Bool.true_and]
            exact Ev.bind hL (Ev.now _)
          · simp only [a, b, c, and_self, if_true, decide_true, decide_false, Bool.true_and, Bool.false_and, Bool.false_eq_true, if_false]; exact Ev.now _
        · simp only [a, b, if_true, decide_true, decide_false, Bool.true_and, Bool.false_and, Bool.false_eq_true, if_false]; exact Ev.now _
      · simp only [a, decide_false, Bool.false_and, if_false]; exact Ev.now _
    · by_cases k2 : kd = 2
      · simp only [if_neg k0, if_neg k1, if_pos k2]
        by_cases a : 0 ≤ mode ∧ mode ≤ 3
        · by_cases b : dx = 0
          · by_cases c : dy = 0
            · simp only [a, b, c, and_self, if_true, decide_true, Bool.true_and]
              exact Ev.bind hL (Ev.now _)
            · simp only [a, b, c, and_self, if_true, decide_true, decide_false, Bool.true_and, Bool.false_and, Bool.false_eq_true, if_false]; exact Ev.now _
          · simp only [a, b, and_self, if_true, decide_true, decide_false, Bool.true_and, Bool.false_and, Bool.false_eq_true, if_false]; exact Ev.now _
        · simp only [a, decide_false, Bool.false_and, Bool.false_eq_true, if_false]; exact Ev.now _
      · simp only [if_neg k0, if_neg k1, if_neg k2]; exact Ev.now _
theorem ssqok_ev (kd mode dx dy : Int) (l : List Int) (hl : l.length ≤ 17592186043904) : Ev (fun k => spec_SquareOk.f k kd mode dx dy l) (sqB kd mode dx dy l) := by
  have hL := slevels_ev l hl
  unfold spec_SquareOk.f sqB
  simp only [in_eq, Option.bind_some, len0]
  by_cases k0 : kd = 0
  · simp only [if_pos k0]
    by_cases a : mode = 0 <;> by_cases b : dx = 0 <;> by_cases c : dy = 0 <;> simp only [a, b, c, if_true, if_false, decide_true, decide_false, Bool.true_and, Bool.false_and] <;> exact Ev.now _
  · by_cases k1 : kd = 1
    · simp only [if_neg k0, if_pos k1]
      by_cases a : mode = 0
      · by_cases b : -16 ≤ dx ∧ dx ≤ 16
        · by_cases c : -16 ≤ dy ∧ dy ≤ 16
          · simp only [a, b, c, and_self, if_true, decide_true, Bool.true_and]
            exact Ev.bind hL (Ev.now _)
          · simp only [a, b, c, and_self, if_true, decide_true, decide_false, Bool.true_and, Bool.false_and, Bool.false_eq_true, if_false]; exact Ev.now _
        · simp only [a, b, if_true, decide_true, decide_false, Bool.true_and, Bool.false_and, Bool.false_eq_true, if_false]; exact Ev.now _
      · simp only [a, decide_false, Bool.false_and, if_false]; exact Ev.now _
    · by_cases k2 : kd = 2
      · simp only [if_neg k0, if_neg k1, if_pos k2]
        by_cases a : 0 ≤ mode ∧ mode ≤ 3
        · by_cases b : dx = 0
          · by_cases c : dy = 0
            · simp only [a, b, c, and_self, if_true, decide_true, Bool.true_and]
              exact Ev.bind hL (Ev.now _)
            · simp only [a, b, c, and_self, if_true, decide_true, decide_false, Bool.true_and, Bool.false_and, Bool.false_eq_true, if_false]; exact Ev.now _
          · simp only [a, b, and_self, if_true, decide_true, decide_false, Bool.true_and, Bool.false_and, Bool.false_eq_true, if_false]; exact Ev.now _
        · simp only [a, decide_false, Bool.false_and, Bool.false_eq_true, if_false]; exact Ev.now _
      · simp only [if_neg k0, if_neg k1, if_neg k2]; exact Ev.now _
theorem szInts_eq' (l : List Int) (a : Int) (hl : l.length ≤ maxLen) (h0 : 0 ≤ a) (h1 : a ≤ 1048576) : ∃ r, laws_szIntS.f l a = some r ∧ (r = -1 ∨ (r = a - (l.length : Int) ∧ 0 ≤ r)) := by
  unfold maxLen at hl
  unfold laws_szIntS.f
  rw [wrap_id (by omega) (by omega)]
  by_cases c : a - (l.length : Int) < 0
  · rw [if_pos c]; exact ⟨_, rfl, .inl rfl⟩
  · rw [if_neg c]; exact ⟨_, rfl, .inr ⟨rfl, by omega⟩⟩
theorem szSquare_eq (kd mode dx dy : Int) (l : List Int) (s : Int) (hl : l.length ≤ maxLen) (h0 : 0 ≤ s) (h1 : s ≤ 1048576) : ∃ r, laws_szSquare.f kd mode dx dy l s = some r ∧ (r < 0 ∨ (l.length ≤ 1048576 ∧ 0 ≤ r ∧ r ≤ s)) := by
  unfold laws_szSquare.f
  obtain ⟨r, e, hr⟩ := szInts_eq' l s hl h0 h1
  rw [e, Option.bind_some]
  by_cases c : r < 0
  · rw [if_pos c]; exact ⟨_, rfl, .inl (by omega)⟩
  · rw [if_neg c]; exact ⟨_, rfl, .inr (by omega)⟩
theorem toSquare_ev (kd mode dx dy : Int) (l : List Int) (hl : l.length ≤ 17592186043904) : Ev (fun k => laws_toSquare.f k kd mode dx dy l) (kd, mode, dx, dy, l) := by
  unfold laws_toSquare.f
  exact Ev.bind (toInts_ev l hl) (Ev.now _)
theorem eqSquare_self (kd mode dx dy : Int) (l : List Int) (hl : l.length ≤ 17592186043904) : Ev (fun k => laws_eqSquare.f k kd mode dx dy l kd mode dx dy l) true := by
  unfold laws_eqSquare.f
  simp only [if_true]
  refine Ev.bind (eqInts_ev l l hl) ?_
  simp only [decide_true, if_true]
  exact Ev.now _

theorem FnExactSquareOk : laws_FnExactSquareOk.Pure := by
  intro kd mode dx dy l _ _ _ _ hl _
  refine Ev.rounds ?_
  unfold laws_FnExactSquareOk.f
  obtain ⟨r, e, hr⟩ := szSquare_eq kd mode dx dy l 1048576 hl (by omega) (by omega)
  rw [e]
  simp only [Option.bind_some]
  by_cases c1 : r < 0
  · simp only [c1, if_true]; exact Ev.now _
  · simp only [c1, if_false]
    have hT := toSquare_ev kd mode dx dy l (by omega)
    have hS := ssqok_ev kd mode dx dy l (by omega)
    have hI := sqok_ev kd mode dx dy l (by omega)
    have hE := eqSquare_self kd mode dx dy l (by omega)
    repeat' (first
      | exact Ev.now _
      | (refine Ev.bind (by assumption) ?_)
      | (simp only [if_true, if_false, bne_self_eq_false, Bool.false_eq_true]))

end Go.Proofs.Ythinpmpjfhjbhaa.Pure
