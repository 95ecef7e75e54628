/- The program's SmallLevel answers what the reference's SmallLevel answers, for all arguments. No condition beside the row's own. -/
import Derived.Test.YthoifppjjdmoaaaQFnExactSmallLevelx2
namespace Go.Proofs.Ythoifppjjdmoaaa.Pure
open Go.RowKit Go.Proofs.Ythoifppjjdmoaaa.QFnExactSmallLevel Go.Proofs.YthoifppjjdmoaaaW.PrintWords Go.Proofs.YthoifppjjdmoaaaW.PrintLast Go.Proofs.YthoifppjjdmoaaaW.PrintMore
set_option linter.unusedVariables false
set_option linter.unusedSimpArgs false

theorem wrap_id {x : Int} (h0 : -9223372036854775808 ≤ x) (h1 : x ≤ 9223372036854775807) : wrap64 x = x := by
  unfold wrap64
  omega
theorem wf64 {n : Int} (h : (Lit.int .i64 n).wf = true) : -9223372036854775808 ≤ n ∧ n ≤ 9223372036854775807 := by
  simp [Lit.wf, IntKind.min, IntKind.max, IntKind.signed, IntKind.bits] at h
  omega
theorem wfu8 {n : Int} (h : (Lit.int .u8 n).wf = true) : 0 ≤ n ∧ n ≤ 255 := by
  simp [Lit.wf, IntKind.min, IntKind.max, IntKind.signed, IntKind.bits] at h
  omega
theorem within_eq (a b c : Int) : impl_within.f a b c = some (decide (b ≤ a ∧ a ≤ c)) := by
  unfold impl_within.f
  by_cases h : a ≥ b
  · rw [if_pos h]; congr 1; rw [decide_eq_decide]; omega
  · rw [if_neg h]; congr 1; symm; rw [decide_eq_false_iff_not]; omega
theorem in_eq (a b c : Int) : spec_l01In.f a b c = some (decide (b ≤ a ∧ a ≤ c)) := by
  unfold spec_l01In.f
  by_cases h : a ≥ b
  · rw [if_pos h]; congr 1; rw [decide_eq_decide]; omega
  · rw [if_neg h]; congr 1; symm; rw [decide_eq_false_iff_not]; omega

theorem down {P : Nat → Prop} (n : Nat) (h0 : P n) (hs : ∀ i, i < n → P (i + 1) → P i) : ∀ i, i ≤ n → P i := by
  intro i hi
  obtain ⟨d, hd⟩ : ∃ d, d = n - i := ⟨_, rfl⟩
  induction d generalizing i with
  | zero =>
    have : i = n := by omega
    subst this; exact h0
  | succ d ih => exact hs i (by omega) (ih (i + 1) (by omega) (by omega))
theorem rd_nat (l : List Int) (i : Nat) (h : i < l.length) : rd l (i : Int) = l[i] := by
  unfold rd
  rw [List.getD_eq_getElem?_getD, Int.toNat_natCast, List.getElem?_eq_getElem h]; rfl
theorem cast1 (i : Nat) : ((i : Nat) : Int) + 1 = ((i + 1 : Nat) : Int) := rfl
theorem mix_set {α : Type} (l z : List α) (i : Nat) (hi : i < l.length) (hz : i < z.length) : (l.take i ++ z.drop i).set i l[i] = l.take (i + 1) ++ z.drop (i + 1) := by
  rw [List.set_append_right _ _ (by simp; omega)]
  rw [show i - (l.take i).length = 0 by simp; omega]
  rw [List.drop_eq_getElem_cons hz, List.set_cons_zero, List.take_succ_eq_append_getElem hi, List.append_assoc]; rfl
theorem mix_length {α : Type} (l z : List α) (i : Nat) (h : l.length = z.length) (hi : i ≤ l.length) : (l.take i ++ z.drop i).length = l.length := by
  simp; omega
theorem mix_end {α : Type} (l z : List α) (h : l.length = z.length) : l.take l.length ++ z.drop l.length = l := by
  rw [List.take_length, h, List.drop_length, List.append_nil]
theorem mix_zero {α : Type} (l z : List α) : l.take 0 ++ z.drop 0 = z := by simp
theorem drop_cons {α : Type} {l : List α} {i : Nat} (h : i < l.length) : l.drop i = l[i] :: l.drop (i + 1) := List.drop_eq_getElem_cons h
/-- All numbers of a list are from lo to hi. -/
def allB (lo hi : Int) (l : List Int) : Bool := l.all fun x => decide (lo ≤ x ∧ x ≤ hi)
theorem allB_cons (lo hi x : Int) (l : List Int) : allB lo hi (x :: l) = (decide (lo ≤ x ∧ x ≤ hi) && allB lo hi l) := rfl
theorem allB_iff {lo hi : Int} {l : List Int} : allB lo hi l = true ↔ ∀ x ∈ l, lo ≤ x ∧ x ≤ hi := by
  unfold allB
  rw [List.all_eq_true]
  simp only [decide_eq_true_eq]

/-- The kind of a place of sixteen. -/
def kindN (a : Int) : Int := if 0 ≤ a ∧ a ≤ 15 then (if a / 4 % 2 = 0 ∧ a % 4 % 2 = 0 then 0 else if a / 4 % 2 = 1 ∧ a % 4 % 2 = 1 then 1 else 2) else -1
theorem kindN_in {a : Int} (h : 0 ≤ a ∧ a ≤ 15) : 0 ≤ kindN a ∧ kindN a < 3 := by
  unfold kindN
  rw [if_pos h]
  by_cases c1 : a / 4 % 2 = 0 ∧ a % 4 % 2 = 0
  · rw [if_pos c1]; omega
  · rw [if_neg c1]
    by_cases c2 : a / 4 % 2 = 1 ∧ a % 4 % 2 = 1
    · rw [if_pos c2]; omega
    · rw [if_neg c2]; omega
theorem kind_parts {a : Int} (h : 0 ≤ a ∧ a ≤ 15) : Int.tmod (wrap64 (Int.tdiv a 4)) 2 = a / 4 % 2 ∧ Int.tmod (Int.tmod a 4) 2 = a % 4 % 2 := by
  rw [Int.tdiv_eq_ediv_of_nonneg h.1, wrap_id (by omega) (by omega), Int.tmod_eq_emod_of_nonneg (a := a / 4) (by omega), Int.tmod_eq_emod_of_nonneg (a := a) h.1, Int.tmod_eq_emod_of_nonneg (a := a % 4) (by omega)]
  exact ⟨rfl, rfl⟩
theorem kind_ev (a : Int) : Ev (fun k => impl_KindOf.f k a) (kindN a) := by
  unfold impl_KindOf.f kindN
  simp only [within_eq, Option.bind_some]
  by_cases h : 0 ≤ a ∧ a ≤ 15
  · obtain ⟨e1, e2⟩ := kind_parts h
    simp only [decide_eq_true h, if_true, h, and_self, e1, e2]
    have hr : a / 4 % 2 = 0 ∨ a / 4 % 2 = 1 := by omega
    have hc : a % 4 % 2 = 0 ∨ a % 4 % 2 = 1 := by omega
    generalize a / 4 % 2 = x at hr
    generalize a % 4 % 2 = y at hc
    rcases hr with rfl | rfl <;> rcases hc with rfl | rfl <;> exact Ev.step (fun k => by simp only [impl_KindOf.j0]; rfl) (Ev.now _)
  · simp only [decide_eq_false h, h, if_false, Bool.false_eq_true]
    exact Ev.now _
theorem skind_ev (a : Int) : Ev (fun k => spec_KindOf.f k a) (kindN a) := by
  unfold spec_KindOf.f kindN
  simp only [in_eq, Option.bind_some]
  by_cases h : 0 ≤ a ∧ a ≤ 15
  · obtain ⟨e1, e2⟩ := kind_parts h
    simp only [decide_eq_true h, if_true, h, and_self, e1, e2]
    have hr : a / 4 % 2 = 0 ∨ a / 4 % 2 = 1 := by omega
    have hc : a % 4 % 2 = 0 ∨ a % 4 % 2 = 1 := by omega
    generalize a / 4 % 2 = x at hr
    generalize a % 4 % 2 = y at hc
    rcases hr with rfl | rfl <;> rcases hc with rfl | rfl <;> exact Ev.step (fun k => by simp only [spec_KindOf.j0]; rfl) (Ev.now _)
  · simp only [decide_eq_false h, h, if_false, Bool.false_eq_true]
    exact Ev.now _

def shareN (q p : Int) : Int := if (0 ≤ q ∧ q ≤ 40) ∧ 0 ≤ p ∧ p ≤ 15 then shareT (q % 6) (kindN p) else 0
theorem share_ev (q p : Int) : Ev (fun k => impl_ShareOf.f k q p) (shareN q p) := by
  unfold impl_ShareOf.f shareN
  simp only [within_eq, Option.bind_some]
  by_cases h1 : 0 ≤ q ∧ q ≤ 40
  · by_cases h2 : 0 ≤ p ∧ p ≤ 15
    · simp only [decide_eq_true h1, decide_eq_true h2, if_true, h1, h2, and_self]
      refine Ev.bind (kind_ev p) ?_
      rw [if_pos (kindN_in h2), Int.tmod_eq_emod_of_nonneg h1.1]
      exact Ev.now _
    · simp only [decide_eq_true h1, decide_eq_false h2, if_true, h2, and_false, if_false, Bool.false_eq_true]
      exact Ev.now _
  · simp only [decide_eq_false h1, if_false, h1, false_and, Bool.false_eq_true]
    exact Ev.now _
theorem pick_val (n a b c : Int) : spec_l08Pick.f n a b c = some (if n = 0 then a else if n = 1 then b else c) := by
  unfold spec_l08Pick.f
  by_cases c0 : n = 0
  · rw [if_pos c0, if_pos c0]
  · rw [if_neg c0, if_neg c0]
    by_cases c1 : n = 1
    · rw [if_pos c1, if_pos c1]
    · rw [if_neg c1, if_neg c1]
theorem sshare_ev (q p : Int) : Ev (fun k => spec_ShareOf.f k q p) (shareN q p) := by
  unfold spec_ShareOf.f shareN
  refine Ev.bind (skind_ev p) ?_
  simp only [in_eq, Option.bind_some]
  have hbad : ∀ x y : Int, Ev (fun k => spec_ShareOf.j0 k x y true) 0 := fun x y => Ev.step (f := fun _ => some 0) (fun k => by simp only [spec_ShareOf.j0]; rfl) (Ev.now _)
  by_cases h1 : 0 ≤ q ∧ q ≤ 40
  · by_cases h2 : 0 ≤ p ∧ p ≤ 15
    · have hk := kindN_in h2
      have hd : decide (kindN p < 0) = false := decide_eq_false (by omega)
      simp only [if_true, h1, h2, and_self, decide_true, hd]
      refine Ev.step (f := fun _ => some (shareT (q % 6) (kindN p))) (fun k => ?_) (Ev.now _)
      simp only [spec_ShareOf.j0, Bool.false_eq_true, if_false, pick_val, Option.bind_some, Int.tmod_eq_emod_of_nonneg h1.1]
      unfold shareT
      generalize q % 6 = m
      by_cases m0 : m = 0
      · simp only [m0, if_true]
      · by_cases m1 : m = 1
        · simp only [m0, m1, if_true, if_false]; rfl
        · by_cases m2 : m = 2
          · simp only [m0, m1, m2, if_true, if_false]; rfl
          · by_cases m3 : m = 3
            · simp only [m0, m1, m2, m3, if_true, if_false]; rfl
            · by_cases m4 : m = 4
              · simp only [m0, m1, m2, m3, m4, if_true, if_false]; rfl
              · simp only [m0, m1, m2, m3, m4, if_false]
    · have hk : kindN p < 0 := by unfold kindN; rw [if_neg h2]; omega
      simp only [h1, and_self, decide_true, if_true, h2, and_false, if_false, decide_eq_true hk]
      exact hbad _ _
  · simp only [decide_eq_false h1, if_false, h1, false_and, Bool.false_eq_true]
    exact hbad _ _

theorem pow_le_nat {a b : Nat} (h : a ≤ b) : (2 : Int) ^ a ≤ 2 ^ b := by
  have := Nat.pow_le_pow_right (show 0 < 2 by omega) h
  exact_mod_cast this
theorem pow_ge1 (a : Nat) : (1 : Int) ≤ 2 ^ a := Int.pow_pos (by omega)
theorem shl_val {x e : Int} (hx : 0 ≤ x ∧ x ≤ 30000) (he : 0 ≤ e ∧ e ≤ 25) : shl .i64 x e = x * 2 ^ e.toNat := by
  unfold shl
  have hm : min e.toNat IntKind.i64.bits = e.toNat := Nat.min_eq_left (by show e.toNat ≤ 64; omega)
  rw [hm, i64_w]
  have hp := pow_le_nat (a := e.toNat) (b := 25) (by omega)
  have h1 := pow_ge1 e.toNat
  have hb : x * 2 ^ e.toNat ≤ 30000 * 2 ^ 25 := Int.mul_le_mul hx.2 hp (by omega) (by omega)
  have h0 : 0 ≤ x * 2 ^ e.toNat := Int.mul_nonneg hx.1 (by omega)
  rw [wrap_id (by omega) (by omega)]

def absN (w : Int) : Int := if w < 0 then -w else w
def sgnN (w n : Int) : Int := if w < 0 then -n else n
def smallP (q : Int) : Int := 2 ^ (15 + q / 6).toNat
def smallQ (a q p : Int) : Int := (a * shareN q p + smallP q / 3) / smallP q
def smallN (w q p : Int) : Int := if (-20000 ≤ w ∧ w ≤ 20000) ∧ (0 ≤ q ∧ q ≤ 40) ∧ 0 ≤ p ∧ p ≤ 15 then sgnN w (smallQ (absN w) q p) else 0
theorem shareT_in (q k : Int) : 2893 ≤ shareT q k ∧ shareT q k ≤ 13107 := by
  unfold shareT
  repeat' split
  all_goals omega
theorem shareN_in {q p : Int} (h1 : 0 ≤ q ∧ q ≤ 40) (h2 : 0 ≤ p ∧ p ≤ 15) : 2893 ≤ shareN q p ∧ shareN q p ≤ 13107 := by
  unfold shareN
  rw [if_pos ⟨h1, h2⟩]
  exact shareT_in _ _
theorem absN_in {w : Int} (h : -20000 ≤ w ∧ w ≤ 20000) : 0 ≤ absN w ∧ absN w ≤ 20000 := by
  unfold absN
  split <;> omega
theorem smallP_in {q : Int} (h : 0 ≤ q ∧ q ≤ 40) : 32768 ≤ smallP q ∧ smallP q ≤ 2097152 := by
  unfold smallP
  have h1 := pow_le_nat (a := 15) (b := (15 + q / 6).toNat) (by omega)
  have h2 := pow_le_nat (a := (15 + q / 6).toNat) (b := 21) (by omega)
  exact ⟨by omega, by omega⟩
theorem small_mul {a t : Int} (ha : 0 ≤ a ∧ a ≤ 20000) (ht : 0 ≤ t ∧ t ≤ 13107) : 0 ≤ a * t ∧ a * t ≤ 262140000 := by
  have h := Int.mul_le_mul ha.2 ht.2 ht.1 (by omega : (0 : Int) ≤ 20000)
  exact ⟨Int.mul_nonneg ha.1 ht.1, by omega⟩
theorem quot_in {x n : Int} (h0 : 0 ≤ x) (h1 : 1 ≤ n) : 0 ≤ x / n ∧ x / n ≤ x := ⟨Int.ediv_nonneg h0 (by omega), Int.ediv_le_self n h0⟩
/-- The quotient as both sides reckon it. -/
theorem small_steps {a q p : Int} (ha : 0 ≤ a ∧ a ≤ 20000) (h1 : 0 ≤ q ∧ q ≤ 40) (h2 : 0 ≤ p ∧ p ≤ 15) :
    wrap64 (Int.tdiv (wrap64 ((wrap64 (a * shareN q p)) + (wrap64 (Int.tdiv (smallP q) 3)))) (smallP q)) = smallQ a q p ∧ 0 ≤ smallQ a q p ∧ smallQ a q p ≤ 300000000 := by
  have hn := smallP_in h1
  have ht := shareN_in h1 h2
  have hm := small_mul ha (t := shareN q p) (by omega)
  unfold smallQ
  generalize smallP q = n at hn ⊢
  generalize a * shareN q p = m at hm ⊢
  have hq := quot_in (x := m + n / 3) (n := n) (by omega) (by omega)
  rw [Int.tdiv_eq_ediv_of_nonneg (a := n) (by omega), wrap_id (x := m) (by omega) (by omega), wrap_id (x := n / 3) (by omega) (by omega), wrap_id (x := m + n / 3) (by omega) (by omega), Int.tdiv_eq_ediv_of_nonneg (a := m + n / 3) (by omega)]
  have hb : m + n / 3 ≤ 300000000 := by omega
  generalize (m + n / 3) / n = z at hq ⊢
  exact ⟨wrap_id (by omega) (by omega), hq.1, by omega⟩
theorem exp15 {q : Int} (h : 0 ≤ q ∧ q ≤ 40) : wrap64 (15 + wrap64 (Int.tdiv q 6)) = 15 + q / 6 := by
  rw [Int.tdiv_eq_ediv_of_nonneg h.1, wrap_id (x := q / 6) (by omega) (by omega), wrap_id (by omega) (by omega)]
theorem shl15 {q : Int} (h : 0 ≤ q ∧ q ≤ 40) : shl .i64 1 (15 + q / 6) = smallP q := by
  rw [shl_val (by omega) (by omega), Int.one_mul]
  rfl
theorem size_val {w : Int} (h : -20000 ≤ w ∧ w ≤ 20000) : mx w (wrap64 (-w)) = absN w := by
  rw [wrap_id (by omega) (by omega)]
  unfold mx absN
  by_cases c : w < 0
  · rw [if_pos c, if_pos (by omega)]
  · rw [if_neg c, if_neg (by omega)]
theorem small_ev (w q p : Int) : Ev (fun k => impl_SmallLevel.f k w q p) (smallN w q p) := by
  have hbad : ∀ x y z : Int, Ev (fun k => impl_SmallLevel.j0 k x y z true) 0 := fun x y z => Ev.step (f := fun _ => some 0) (fun k => by simp only [impl_SmallLevel.j0]; rfl) (Ev.now _)
  unfold impl_SmallLevel.f smallN
  simp only [within_eq, Option.bind_some]
  by_cases h0 : -20000 ≤ w ∧ w ≤ 20000
  · by_cases h1 : 0 ≤ q ∧ q ≤ 40
    · by_cases h2 : 0 ≤ p ∧ p ≤ 15
      · simp only [h0, h1, h2, and_self, decide_true, if_true, Bool.not_true]
        have hs := share_ev q p
        obtain ⟨e1, e2, e3⟩ := small_steps (absN_in h0) h1 h2
        have hn := smallP_in h1
        have g : (0 : Int) ≤ 15 + q / 6 := by omega
        have n0 : ¬ smallP q = 0 := by omega
        refine Ev.step (fun k => by simp only [impl_SmallLevel.j0, Bool.false_eq_true, if_false, exp15 h1, g, if_true, impl_size.f, Option.bind_some, size_val h0, shl15 h1, n0]; rfl) (Ev.bind hs ?_)
        simp only [e1, impl_signed.f]
        unfold sgnN
        by_cases c : w < 0
        · simp only [c, if_true, Option.bind_some]
          rw [wrap_id (by omega) (by omega)]
          exact Ev.now _
        · simp only [c, if_false, Option.bind_some]
          exact Ev.now _
      · simp only [h0, h1, h2, and_self, and_false, decide_true, decide_false, if_true, if_false, Bool.not_false]
        exact hbad _ _ _
    · simp only [h0, h1, and_self, false_and, and_false, decide_true, decide_false, if_true, if_false, Bool.false_eq_true]
      exact hbad _ _ _
  · simp only [h0, false_and, decide_false, if_false, Bool.false_eq_true]
    exact hbad _ _ _
theorem ssmall_ev (w q p : Int) : Ev (fun k => spec_SmallLevel.f k w q p) (smallN w q p) := by
  have hbad : ∀ x y z : Int, Ev (fun k => spec_SmallLevel.j0 k x y z true) 0 := fun x y z => Ev.step (f := fun _ => some 0) (fun k => by simp only [spec_SmallLevel.j0]; rfl) (Ev.now _)
  unfold spec_SmallLevel.f smallN
  simp only [in_eq, Option.bind_some]
  by_cases h0 : -20000 ≤ w ∧ w ≤ 20000
  · by_cases h1 : 0 ≤ q ∧ q ≤ 40
    · by_cases h2 : 0 ≤ p ∧ p ≤ 15
      · simp only [h0, h1, h2, and_self, decide_true, if_true, Bool.not_true]
        have hs := sshare_ev q p
        obtain ⟨e1, e2, e3⟩ := small_steps (absN_in h0) h1 h2
        have hn := smallP_in h1
        have g : (0 : Int) ≤ 15 + q / 6 := by omega
        have n0 : ¬ smallP q = 0 := by omega
        have u : IntKind.u64.wrap (15 + q / 6) = 15 + q / 6 := by
          have e : IntKind.u64.wrap (15 + q / 6) = (15 + q / 6) % 18446744073709551616 := by simp [IntKind.wrap, IntKind.bits, IntKind.signed]
          rw [e]; omega
        have hz : spec_l08Sized.f w = some (absN w) := by
          unfold spec_l08Sized.f absN
          by_cases c : w < 0
          · rw [if_pos c, if_pos c, wrap_id (by omega) (by omega)]
          · rw [if_neg c, if_neg c]
        refine Ev.step (fun k => by simp only [spec_SmallLevel.j0, Bool.false_eq_true, if_false, exp15 h1, u, g, if_true, hz, Option.bind_some, shl15 h1, n0]; rfl) (Ev.bind hs ?_)
        simp only [e1, spec_l08Signed.f]
        unfold sgnN
        by_cases c : w < 0
        · simp only [c, if_true, Option.bind_some]
          rw [wrap_id (by omega) (by omega)]
          exact Ev.now _
        · simp only [c, if_false, Option.bind_some]
          exact Ev.now _
      · simp only [h0, h1, h2, and_self, and_false, decide_true, decide_false, if_true, if_false, Bool.not_false]
        exact hbad _ _ _
    · simp only [h0, h1, and_self, false_and, and_false, decide_true, decide_false, if_true, if_false, Bool.false_eq_true]
      exact hbad _ _ _
  · simp only [h0, false_and, decide_false, if_false, Bool.false_eq_true]
    exact hbad _ _ _

theorem FnExactSmallLevel : laws_FnExactSmallLevel.Pure := by
  intro w q p _ _ _
  refine Ev.rounds ?_
  unfold laws_FnExactSmallLevel.f
  have h1 := ssmall_ev w q p
  have h2 := small_ev w q p
  repeat' (first
    | exact Ev.now _
    | (refine Ev.bind (by assumption) ?_)
    | (simp only [if_true]))

end Go.Proofs.Ythoifppjjdmoaaa.Pure
