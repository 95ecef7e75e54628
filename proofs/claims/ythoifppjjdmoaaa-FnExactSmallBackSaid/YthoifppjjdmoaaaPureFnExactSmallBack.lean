/- The program's SmallBack answers what the reference's SmallBack answers, for all arguments. No condition beside the row's own. -/
import Derived.Test.YthoifppjjdmoaaaQFnExactSmallBackx2
namespace Go.Proofs.Ythoifppjjdmoaaa.Pure
open Go.RowKit Go.Proofs.Ythoifppjjdmoaaa.QFnExactSmallBack Go.Proofs.YthoifppjjdmoaaaW.PrintWords Go.Proofs.YthoifppjjdmoaaaW.PrintLast Go.Proofs.YthoifppjjdmoaaaW.PrintMore
set_option linter.unusedVariables false
set_option linter.unusedSimpArgs false

theorem wrap_id {x : Int} (h0 : -9223372036854775808 ≤ x) (h1 : x ≤ 9223372036854775807) : wrap64 x = x := by
  unfold wrap64
  omega
theorem wf64 {n : Int} (h : (Lit.int .i64 n).wf = true) : -9223372036854775808 ≤ n ∧ n ≤ 9223372036854775807 := by
  simp [Lit.wf, IntKind.min, IntKind.max, IntKind.signed, IntKind.bits] at h
  omega
theorem wfu8 {n : Int} (h : (Lit.int .u8 n).wf = true) : 0 ≤ n ∧ n ≤ 255 := by
  simp [Lit.wf, IntKind.min, IntKind.max, IntKind.signed, IntKind.bits] at h
  omega
theorem within_eq (a b c : Int) : impl_within.f a b c = some (decide (b ≤ a ∧ a ≤ c)) := by
  unfold impl_within.f
  by_cases h : a ≥ b
  · rw [if_pos h]; congr 1; rw [decide_eq_decide]; omega
  · rw [if_neg h]; congr 1; symm; rw [decide_eq_false_iff_not]; omega
theorem in_eq (a b c : Int) : spec_l01In.f a b c = some (decide (b ≤ a ∧ a ≤ c)) := by
  unfold spec_l01In.f
  by_cases h : a ≥ b
  · rw [if_pos h]; congr 1; rw [decide_eq_decide]; omega
  · rw [if_neg h]; congr 1; symm; rw [decide_eq_false_iff_not]; omega

theorem down {P : Nat → Prop} (n : Nat) (h0 : P n) (hs : ∀ i, i < n → P (i + 1) → P i) : ∀ i, i ≤ n → P i := by
  intro i hi
  obtain ⟨d, hd⟩ : ∃ d, d = n - i := ⟨_, rfl⟩
  induction d generalizing i with
  | zero =>
    have : i = n := by omega
    subst this; exact h0
  | succ d ih => exact hs i (by omega) (ih (i + 1) (by omega) (by omega))
theorem rd_nat (l : List Int) (i : Nat) (h : i < l.length) : rd l (i : Int) = l[i] := by
  unfold rd
  rw [List.getD_eq_getElem?_getD, Int.toNat_natCast, List.getElem?_eq_getElem h]; rfl
theorem cast1 (i : Nat) : ((i : Nat) : Int) + 1 = ((i + 1 : Nat) : Int) := rfl
theorem mix_set {α : Type} (l z : List α) (i : Nat) (hi : i < l.length) (hz : i < z.length) : (l.take i ++ z.drop i).set i l[i] = l.take (i + 1) ++ z.drop (i + 1) := by
  rw [List.set_append_right _ _ (by simp; omega)]
  rw [show i - (l.take i).length = 0 by simp; omega]
  rw [List.drop_eq_getElem_cons hz, List.set_cons_zero, List.take_succ_eq_append_getElem hi, List.append_assoc]; rfl
theorem mix_length {α : Type} (l z : List α) (i : Nat) (h : l.length = z.length) (hi : i ≤ l.length) : (l.take i ++ z.drop i).length = l.length := by
  simp; omega
theorem mix_end {α : Type} (l z : List α) (h : l.length = z.length) : l.take l.length ++ z.drop l.length = l := by
  rw [List.take_length, h, List.drop_length, List.append_nil]
theorem mix_zero {α : Type} (l z : List α) : l.take 0 ++ z.drop 0 = z := by simp
theorem drop_cons {α : Type} {l : List α} {i : Nat} (h : i < l.length) : l.drop i = l[i] :: l.drop (i + 1) := List.drop_eq_getElem_cons h
/-- All numbers of a list are from lo to hi. -/
def allB (lo hi : Int) (l : List Int) : Bool := l.all fun x => decide (lo ≤ x ∧ x ≤ hi)
theorem allB_cons (lo hi x : Int) (l : List Int) : allB lo hi (x :: l) = (decide (lo ≤ x ∧ x ≤ hi) && allB lo hi l) := rfl
theorem allB_iff {lo hi : Int} {l : List Int} : allB lo hi l = true ↔ ∀ x ∈ l, lo ≤ x ∧ x ≤ hi := by
  unfold allB
  rw [List.all_eq_true]
  simp only [decide_eq_true_eq]

/-- The kind of a place of sixteen. -/
def kindN (a : Int) : Int := if 0 ≤ a ∧ a ≤ 15 then (if a / 4 % 2 = 0 ∧ a % 4 % 2 = 0 then 0 else if a / 4 % 2 = 1 ∧ a % 4 % 2 = 1 then 1 else 2) else -1
theorem kindN_in {a : Int} (h : 0 ≤ a ∧ a ≤ 15) : 0 ≤ kindN a ∧ kindN a < 3 := by
  unfold kindN
  rw [if_pos h]
  by_cases c1 : a / 4 % 2 = 0 ∧ a % 4 % 2 = 0
  · rw [if_pos c1]; omega
  · rw [if_neg c1]
    by_cases c2 : a / 4 % 2 = 1 ∧ a % 4 % 2 = 1
    · rw [if_pos c2]; omega
    · rw [if_neg c2]; omega
theorem kind_parts {a : Int} (h : 0 ≤ a ∧ a ≤ 15) : Int.tmod (wrap64 (Int.tdiv a 4)) 2 = a / 4 % 2 ∧ Int.tmod (Int.tmod a 4) 2 = a % 4 % 2 := by
  rw [Int.tdiv_eq_ediv_of_nonneg h.1, wrap_id (by omega) (by omega), Int.tmod_eq_emod_of_nonneg (a := a / 4) (by omega), Int.tmod_eq_emod_of_nonneg (a := a) h.1, Int.tmod_eq_emod_of_nonneg (a := a % 4) (by omega)]
  exact ⟨rfl, rfl⟩
theorem kind_ev (a : Int) : Ev (fun k => impl_KindOf.f k a) (kindN a) := by
  unfold impl_KindOf.f kindN
  simp only [within_eq, Option.bind_some]
  by_cases h : 0 ≤ a ∧ a ≤ 15
  · obtain ⟨e1, e2⟩ := kind_parts h
    simp only [decide_eq_true h, if_true, h, and_self, e1, e2]
    have hr : a / 4 % 2 = 0 ∨ a / 4 % 2 = 1 := by omega
    have hc : a % 4 % 2 = 0 ∨ a % 4 % 2 = 1 := by omega
    generalize a / 4 % 2 = x at hr
    generalize a % 4 % 2 = y at hc
    rcases hr with rfl | rfl <;> rcases hc with rfl | rfl <;> exact Ev.step (fun k => by simp only [impl_KindOf.j0]; rfl) (Ev.now _)
  · simp only [decide_eq_false h, h, if_false, Bool.false_eq_true]
    exact Ev.now _
theorem skind_ev (a : Int) : Ev (fun k => spec_KindOf.f k a) (kindN a) := by
  unfold spec_KindOf.f kindN
  simp only [in_eq, Option.bind_some]
  by_cases h : 0 ≤ a ∧ a ≤ 15
  · obtain ⟨e1, e2⟩ := kind_parts h
    simp only [decide_eq_true h, if_true, h, and_self, e1, e2]
    have hr : a / 4 % 2 = 0 ∨ a / 4 % 2 = 1 := by omega
    have hc : a % 4 % 2 = 0 ∨ a % 4 % 2 = 1 := by omega
    generalize a / 4 % 2 = x at hr
    generalize a % 4 % 2 = y at hc
    rcases hr with rfl | rfl <;> rcases hc with rfl | rfl <;> exact Ev.step (fun k => by simp only [spec_KindOf.j0]; rfl) (Ev.now _)
  · simp only [decide_eq_false h, h, if_false, Bool.false_eq_true]
    exact Ev.now _

theorem pow_le_nat {a b : Nat} (h : a ≤ b) : (2 : Int) ^ a ≤ 2 ^ b := by
  have := Nat.pow_le_pow_right (show 0 < 2 by omega) h
  exact_mod_cast this
theorem pow_ge1 (a : Nat) : (1 : Int) ≤ 2 ^ a := Int.pow_pos (by omega)
theorem shl_val {x e : Int} (hx : 0 ≤ x ∧ x ≤ 30000) (he : 0 ≤ e ∧ e ≤ 25) : shl .i64 x e = x * 2 ^ e.toNat := by
  unfold shl
  have hm : min e.toNat IntKind.i64.bits = e.toNat := Nat.min_eq_left (by show e.toNat ≤ 64; omega)
  rw [hm, i64_w]
  have hp := pow_le_nat (a := e.toNat) (b := 25) (by omega)
  have h1 := pow_ge1 e.toNat
  have hb : x * 2 ^ e.toNat ≤ 30000 * 2 ^ 25 := Int.mul_le_mul hx.2 hp (by omega) (by omega)
  have h0 : 0 ≤ x * 2 ^ e.toNat := Int.mul_nonneg hx.1 (by omega)
  rw [wrap_id (by omega) (by omega)]

def scaleN (q p : Int) : Int := if (0 ≤ q ∧ q ≤ 40) ∧ 0 ≤ p ∧ p ≤ 15 then scaleT (q % 6) (kindN p) * 2 ^ (q / 6).toNat else 0
theorem scaleT_in (q k : Int) : 10 ≤ scaleT q k ∧ scaleT q k ≤ 29 := by
  unfold scaleT
  repeat' split
  all_goals omega
theorem scale_ev (q p : Int) : Ev (fun k => impl_ScaleOf.f k q p) (scaleN q p) := by
  unfold impl_ScaleOf.f scaleN
  simp only [within_eq, Option.bind_some]
  by_cases h1 : 0 ≤ q ∧ q ≤ 40
  · by_cases h2 : 0 ≤ p ∧ p ≤ 15
    · simp only [if_true, h1, h2, and_self, decide_true]
      refine Ev.bind (kind_ev p) ?_
      have hs := scaleT_in (q % 6) (kindN p)
      have e : wrap64 (Int.tdiv q 6) = q / 6 := by rw [Int.tdiv_eq_ediv_of_nonneg h1.1, wrap_id (by omega) (by omega)]
      rw [if_pos (kindN_in h2), Int.tmod_eq_emod_of_nonneg h1.1, e, shl_val (by omega) (by omega)]
      exact Ev.now _
    · simp only [h1, and_self, decide_true, decide_eq_false h2, if_true, h2, and_false, if_false, Bool.false_eq_true]
      exact Ev.now _
  · simp only [decide_eq_false h1, if_false, h1, false_and, Bool.false_eq_true]
    exact Ev.now _
theorem spick_val (n a b c : Int) : spec_l08Pick.f n a b c = some (if n = 0 then a else if n = 1 then b else c) := by
  unfold spec_l08Pick.f
  by_cases c0 : n = 0
  · rw [if_pos c0, if_pos c0]
  · rw [if_neg c0, if_neg c0]
    by_cases c1 : n = 1
    · rw [if_pos c1, if_pos c1]
    · rw [if_neg c1, if_neg c1]
theorem sscale_loop (q : Int) (hq : 0 ≤ q ∧ q ≤ 40) (d : Nat) : ∀ i b : Int, 0 ≤ i → i + (d : Int) = q / 6 → 0 ≤ b → b * 2 ^ d ≤ 1000000 → Ev (fun k => spec_ScaleOf.l0 k q b i) (b * 2 ^ d) := by
  have e : wrap64 (Int.tdiv q 6) = q / 6 := by rw [Int.tdiv_eq_ediv_of_nonneg hq.1, wrap_id (by omega) (by omega)]
  induction d with
  | zero =>
    intro i b hz hi h0 h1
    rw [Int.pow_zero, Int.mul_one]
    refine Ev.step (f := fun _ => some b) (fun k => ?_) (Ev.now _)
    simp only [spec_ScaleOf.l0]
    rw [e, if_neg (by omega)]
  | succ d ih =>
    intro i b hz hi h0 h1
    have e2 : b * 2 ^ (d + 1) = (2 * b) * 2 ^ d := by rw [Int.pow_succ, Int.mul_comm (2 ^ d) 2, ← Int.mul_assoc, Int.mul_comm b 2]
    rw [e2] at h1 ⊢
    have hp := pow_ge1 d
    have hb : (2 * b) * 1 ≤ (2 * b) * 2 ^ d := Int.mul_le_mul_of_nonneg_left hp (by omega)
    refine Ev.step (fun k => ?_) (ih (i + 1) (2 * b) (by omega) (by omega) (by omega) h1)
    simp only [spec_ScaleOf.l0]
    rw [e, if_pos (by omega), wrap_id (x := 2 * b) (by omega) (by omega), wrap_id (x := i + 1) (by omega) (by omega)]
theorem sscale_ev (q p : Int) : Ev (fun k => spec_ScaleOf.f k q p) (scaleN q p) := by
  unfold spec_ScaleOf.f scaleN
  refine Ev.bind (skind_ev p) ?_
  simp only [in_eq, Option.bind_some]
  have hbad : ∀ x y : Int, Ev (fun k => spec_ScaleOf.j0 k x y true) 0 := fun x y => Ev.step (f := fun _ => some 0) (fun k => by simp only [spec_ScaleOf.j0]; rfl) (Ev.now _)
  by_cases h1 : 0 ≤ q ∧ q ≤ 40
  · by_cases h2 : 0 ≤ p ∧ p ≤ 15
    · have hk := kindN_in h2
      have hd : decide (kindN p < 0) = false := decide_eq_false (by omega)
      simp only [if_true, h1, h2, and_self, decide_true, hd]
      have hs := scaleT_in (q % 6) (kindN p)
      have hp := pow_le_nat (a := (q / 6).toNat) (b := 6) (by omega)
      have hp1 := pow_ge1 (q / 6).toNat
      have hm : scaleT (q % 6) (kindN p) * 2 ^ (q / 6).toNat ≤ 29 * 2 ^ 6 := Int.mul_le_mul hs.2 hp (by omega) (by omega)
      have hl := sscale_loop q h1 (q / 6).toNat 0 (scaleT (q % 6) (kindN p)) (by omega) (by omega) (by omega) (by omega)
      have hj : Ev (fun k => spec_ScaleOf.j1 k q (scaleT (q % 6) (kindN p))) (scaleT (q % 6) (kindN p) * 2 ^ (q / 6).toNat) := Ev.step (fun k => by simp only [spec_ScaleOf.j1]) hl
      refine Ev.step (fun k => ?_) hj
      simp only [spec_ScaleOf.j0, Bool.false_eq_true, if_false, spick_val, Option.bind_some, Int.tmod_eq_emod_of_nonneg h1.1]
      have hq6 : q % 6 = 0 ∨ q % 6 = 1 ∨ q % 6 = 2 ∨ q % 6 = 3 ∨ q % 6 = 4 ∨ q % 6 = 5 := by omega
      unfold scaleT
      generalize q % 6 = m at hq6
      rcases hq6 with rfl | rfl | rfl | rfl | rfl | rfl <;> rfl
    · have hk : kindN p < 0 := by unfold kindN; rw [if_neg h2]; omega
      simp only [h1, and_self, decide_true, if_true, h2, and_false, if_false, decide_eq_true hk]
      exact hbad _ _
  · simp only [decide_eq_false h1, if_false, h1, false_and, Bool.false_eq_true]
    exact hbad _ _

theorem FnExactSmallBack : laws_FnExactSmallBack.Pure := by
  intro l q p _ _ _
  refine Ev.rounds ?_
  unfold laws_FnExactSmallBack.f
  have h1 := sscale_ev q p
  have h2 := scale_ev q p
  have h3 : Ev (fun k => impl_SmallBack.f k l q p) (if -5000 ≤ l ∧ l ≤ 5000 then wrap64 (l * scaleN q p) else 0) := by
    unfold impl_SmallBack.f
    simp only [within_eq, Option.bind_some]
    by_cases c : -5000 ≤ l ∧ l ≤ 5000
    · simp only [c, and_self, decide_true, if_true]
      exact Ev.bind h2 (Ev.now _)
    · simp only [decide_eq_false c, if_false, c, Bool.false_eq_true]
      exact Ev.now _
  have h4 : Ev (fun k => spec_SmallBack.f k l q p) (if -5000 ≤ l ∧ l ≤ 5000 then wrap64 (l * scaleN q p) else 0) := by
    unfold spec_SmallBack.f
    simp only [in_eq, Option.bind_some]
    by_cases c : -5000 ≤ l ∧ l ≤ 5000
    · simp only [c, and_self, decide_true, if_true]
      exact Ev.bind h1 (Ev.now _)
    · simp only [decide_eq_false c, if_false, c, Bool.false_eq_true]
      exact Ev.now _
  repeat' (first
    | exact Ev.now _
    | (refine Ev.bind (by assumption) ?_)
    | (simp only [if_true]))

end Go.Proofs.Ythoifppjjdmoaaa.Pure
