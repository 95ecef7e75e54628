/- Steps double with each six; what is kept of a drawn number is off by half a step at most, has its sign, and of nothing is nothing: the law FnSteps answers true of every row of bytes. No condition beside the row's own. -/
import Derived.Test.YthoifppjjdmoaaaQFnStepsx3
namespace Go.Proofs.Ythoifppjjdmoaaa.Pure
open Go.RowKit Go.Proofs.Ythoifppjjdmoaaa.QFnSteps Go.Proofs.YthoifppjjdmoaaaW.PrintWords Go.Proofs.YthoifppjjdmoaaaW.PrintLast Go.Proofs.YthoifppjjdmoaaaW.PrintMore
set_option linter.unusedVariables false
set_option linter.unusedSimpArgs false

theorem wrap_id {x : Int} (h0 : -9223372036854775808 ≤ x) (h1 : x ≤ 9223372036854775807) : wrap64 x = x := by
  unfold wrap64
  omega
theorem wf64 {n : Int} (h : (Lit.int .i64 n).wf = true) : -9223372036854775808 ≤ n ∧ n ≤ 9223372036854775807 := by
  simp [Lit.wf, IntKind.min, IntKind.max, IntKind.signed, IntKind.bits] at h
  omega
theorem wfu8 {n : Int} (h : (Lit.int .u8 n).wf = true) : 0 ≤ n ∧ n ≤ 255 := by
  simp [Lit.wf, IntKind.min, IntKind.max, IntKind.signed, IntKind.bits] at h
  omega
theorem within_eq (a b c : Int) : impl_within.f a b c = some (decide (b ≤ a ∧ a ≤ c)) := by
  unfold impl_within.f
  by_cases h : a ≥ b
  · rw [if_pos h]; congr 1; rw [decide_eq_decide]; omega
  · rw [if_neg h]; congr 1; symm; rw [decide_eq_false_iff_not]; omega

theorem down {P : Nat → Prop} (n : Nat) (h0 : P n) (hs : ∀ i, i < n → P (i + 1) → P i) : ∀ i, i ≤ n → P i := by
  intro i hi
  obtain ⟨d, hd⟩ : ∃ d, d = n - i := ⟨_, rfl⟩
  induction d generalizing i with
  | zero =>
    have : i = n := by omega
    subst this; exact h0
  | succ d ih => exact hs i (by omega) (ih (i + 1) (by omega) (by omega))
theorem rd_nat (l : List Int) (i : Nat) (h : i < l.length) : rd l (i : Int) = l[i] := by
  unfold rd
  rw [List.getD_eq_getElem?_getD, Int.toNat_natCast, List.getElem?_eq_getElem h]; rfl
theorem cast1 (i : Nat) : ((i : Nat) : Int) + 1 = ((i + 1 : Nat) : Int) := rfl
theorem mix_set {α : Type} (l z : List α) (i : Nat) (hi : i < l.length) (hz : i < z.length) : (l.take i ++ z.drop i).set i l[i] = l.take (i + 1) ++ z.drop (i + 1) := by
  rw [List.set_append_right _ _ (by simp; omega)]
  rw [show i - (l.take i).length = 0 by simp; omega]
  rw [List.drop_eq_getElem_cons hz, List.set_cons_zero, List.take_succ_eq_append_getElem hi, List.append_assoc]; rfl
theorem mix_length {α : Type} (l z : List α) (i : Nat) (h : l.length = z.length) (hi : i ≤ l.length) : (l.take i ++ z.drop i).length = l.length := by
  simp; omega
theorem mix_end {α : Type} (l z : List α) (h : l.length = z.length) : l.take l.length ++ z.drop l.length = l := by
  rw [List.take_length, h, List.drop_length, List.append_nil]
theorem mix_zero {α : Type} (l z : List α) : l.take 0 ++ z.drop 0 = z := by simp
theorem drop_cons {α : Type} {l : List α} {i : Nat} (h : i < l.length) : l.drop i = l[i] :: l.drop (i + 1) := List.drop_eq_getElem_cons h
/-- All numbers of a list are from lo to hi. -/
def allB (lo hi : Int) (l : List Int) : Bool := l.all fun x => decide (lo ≤ x ∧ x ≤ hi)
theorem allB_cons (lo hi x : Int) (l : List Int) : allB lo hi (x :: l) = (decide (lo ≤ x ∧ x ≤ hi) && allB lo hi l) := rfl
theorem allB_iff {lo hi : Int} {l : List Int} : allB lo hi l = true ↔ ∀ x ∈ l, lo ≤ x ∧ x ≤ hi := by
  unfold allB
  rw [List.all_eq_true]
  simp only [decide_eq_true_eq]

/-- The kind of a place of sixteen. -/
def kindN (a : Int) : Int := if 0 ≤ a ∧ a ≤ 15 then (if a / 4 % 2 = 0 ∧ a % 4 % 2 = 0 then 0 else if a / 4 % 2 = 1 ∧ a % 4 % 2 = 1 then 1 else 2) else -1
theorem kindN_in {a : Int} (h : 0 ≤ a ∧ a ≤ 15) : 0 ≤ kindN a ∧ kindN a < 3 := by
  unfold kindN
  rw [if_pos h]
  by_cases c1 : a / 4 % 2 = 0 ∧ a % 4 % 2 = 0
  · rw [if_pos c1]; omega
  · rw [if_neg c1]
    by_cases c2 : a / 4 % 2 = 1 ∧ a % 4 % 2 = 1
    · rw [if_pos c2]; omega
    · rw [if_neg c2]; omega
theorem kind_parts {a : Int} (h : 0 ≤ a ∧ a ≤ 15) : Int.tmod (wrap64 (Int.tdiv a 4)) 2 = a / 4 % 2 ∧ Int.tmod (Int.tmod a 4) 2 = a % 4 % 2 := by
  rw [Int.tdiv_eq_ediv_of_nonneg h.1, wrap_id (by omega) (by omega), Int.tmod_eq_emod_of_nonneg (a := a / 4) (by omega), Int.tmod_eq_emod_of_nonneg (a := a) h.1, Int.tmod_eq_emod_of_nonneg (a := a % 4) (by omega)]
  exact ⟨rfl, rfl⟩
theorem kind_ev (a : Int) : Ev (fun k => impl_KindOf.f k a) (kindN a) := by
  unfold impl_KindOf.f kindN
  simp only [within_eq, Option.bind_some]
  by_cases h : 0 ≤ a ∧ a ≤ 15
  · obtain ⟨e1, e2⟩ := kind_parts h
    simp only [decide_eq_true h, if_true, h, and_self, e1, e2]
    have hr : a / 4 % 2 = 0 ∨ a / 4 % 2 = 1 := by omega
    have hc : a % 4 % 2 = 0 ∨ a % 4 % 2 = 1 := by omega
    generalize a / 4 % 2 = x at hr
    generalize a % 4 % 2 = y at hc
    rcases hr with rfl | rfl <;> rcases hc with rfl | rfl <;> exact Ev.step (fun k => by simp only [impl_KindOf.j0]; rfl) (Ev.now _)
  · simp only [decide_eq_false h, h, if_false, Bool.false_eq_true]
    exact Ev.now _

def shareN (q p : Int) : Int := if (0 ≤ q ∧ q ≤ 40) ∧ 0 ≤ p ∧ p ≤ 15 then shareT (q % 6) (kindN p) else 0
theorem share_ev (q p : Int) : Ev (fun k => impl_ShareOf.f k q p) (shareN q p) := by
  unfold impl_ShareOf.f shareN
  simp only [within_eq, Option.bind_some]
  by_cases h1 : 0 ≤ q ∧ q ≤ 40
  · by_cases h2 : 0 ≤ p ∧ p ≤ 15
    · simp only [decide_eq_true h1, decide_eq_true h2, if_true, h1, h2, and_self]
      refine Ev.bind (kind_ev p) ?_
      rw [if_pos (kindN_in h2), Int.tmod_eq_emod_of_nonneg h1.1]
      exact Ev.now _
    · simp only [decide_eq_true h1, decide_eq_false h2, if_true, h2, and_false, if_false, Bool.false_eq_true]
      exact Ev.now _
  · simp only [decide_eq_false h1, if_false, h1, false_and, Bool.false_eq_true]
    exact Ev.now _

theorem pow_le_nat {a b : Nat} (h : a ≤ b) : (2 : Int) ^ a ≤ 2 ^ b := by
  have := Nat.pow_le_pow_right (show 0 < 2 by omega) h
  exact_mod_cast this
theorem pow_ge1 (a : Nat) : (1 : Int) ≤ 2 ^ a := Int.pow_pos (by omega)
theorem shl_val {x e : Int} (hx : 0 ≤ x ∧ x ≤ 30000) (he : 0 ≤ e ∧ e ≤ 25) : shl .i64 x e = x * 2 ^ e.toNat := by
  unfold shl
  have hm : min e.toNat IntKind.i64.bits = e.toNat := Nat.min_eq_left (by show e.toNat ≤ 64; omega)
  rw [hm, i64_w]
  have hp := pow_le_nat (a := e.toNat) (b := 25) (by omega)
  have h1 := pow_ge1 e.toNat
  have hb : x * 2 ^ e.toNat ≤ 30000 * 2 ^ 25 := Int.mul_le_mul hx.2 hp (by omega) (by omega)
  have h0 : 0 ≤ x * 2 ^ e.toNat := Int.mul_nonneg hx.1 (by omega)
  rw [wrap_id (by omega) (by omega)]

def absN (w : Int) : Int := if w < 0 then -w else w
def sgnN (w n : Int) : Int := if w < 0 then -n else n
def smallP (q : Int) : Int := 2 ^ (15 + q / 6).toNat
def smallQ (a q p : Int) : Int := (a * shareN q p + smallP q / 3) / smallP q
def smallN (w q p : Int) : Int := if (-20000 ≤ w ∧ w ≤ 20000) ∧ (0 ≤ q ∧ q ≤ 40) ∧ 0 ≤ p ∧ p ≤ 15 then sgnN w (smallQ (absN w) q p) else 0
theorem shareT_in (q k : Int) : 2893 ≤ shareT q k ∧ shareT q k ≤ 13107 := by
  unfold shareT
  repeat' split
  all_goals omega
theorem shareN_in {q p : Int} (h1 : 0 ≤ q ∧ q ≤ 40) (h2 : 0 ≤ p ∧ p ≤ 15) : 2893 ≤ shareN q p ∧ shareN q p ≤ 13107 := by
  unfold shareN
  rw [if_pos ⟨h1, h2⟩]
  exact shareT_in _ _
theorem absN_in {w : Int} (h : -20000 ≤ w ∧ w ≤ 20000) : 0 ≤ absN w ∧ absN w ≤ 20000 := by
  unfold absN
  split <;> omega
theorem smallP_in {q : Int} (h : 0 ≤ q ∧ q ≤ 40) : 32768 ≤ smallP q ∧ smallP q ≤ 2097152 := by
  unfold smallP
  have h1 := pow_le_nat (a := 15) (b := (15 + q / 6).toNat) (by omega)
  have h2 := pow_le_nat (a := (15 + q / 6).toNat) (b := 21) (by omega)
  exact ⟨by omega, by omega⟩
theorem small_mul {a t : Int} (ha : 0 ≤ a ∧ a ≤ 20000) (ht : 0 ≤ t ∧ t ≤ 13107) : 0 ≤ a * t ∧ a * t ≤ 262140000 := by
  have h := Int.mul_le_mul ha.2 ht.2 ht.1 (by omega : (0 : Int) ≤ 20000)
  exact ⟨Int.mul_nonneg ha.1 ht.1, by omega⟩
theorem quot_in {x n : Int} (h0 : 0 ≤ x) (h1 : 1 ≤ n) : 0 ≤ x / n ∧ x / n ≤ x := ⟨Int.ediv_nonneg h0 (by omega), Int.ediv_le_self n h0⟩
/-- The quotient as both sides reckon it. -/
theorem small_steps {a q p : Int} (ha : 0 ≤ a ∧ a ≤ 20000) (h1 : 0 ≤ q ∧ q ≤ 40) (h2 : 0 ≤ p ∧ p ≤ 15) :
    wrap64 (Int.tdiv (wrap64 ((wrap64 (a * shareN q p)) + (wrap64 (Int.tdiv (smallP q) 3)))) (smallP q)) = smallQ a q p ∧ 0 ≤ smallQ a q p ∧ smallQ a q p ≤ 300000000 := by
  have hn := smallP_in h1
  have ht := shareN_in h1 h2
  have hm := small_mul ha (t := shareN q p) (by omega)
  unfold smallQ
  generalize smallP q = n at hn ⊢
  generalize a * shareN q p = m at hm ⊢
  have hq := quot_in (x := m + n / 3) (n := n) (by omega) (by omega)
  rw [Int.tdiv_eq_ediv_of_nonneg (a := n) (by omega), wrap_id (x := m) (by omega) (by omega), wrap_id (x := n / 3) (by omega) (by omega), wrap_id (x := m + n / 3) (by omega) (by omega), Int.tdiv_eq_ediv_of_nonneg (a := m + n / 3) (by omega)]
  have hb : m + n / 3 ≤ 300000000 := by omega
  generalize (m + n / 3) / n = z at hq ⊢
  exact ⟨wrap_id (by omega) (by omega), hq.1, by omega⟩
theorem exp15 {q : Int} (h : 0 ≤ q ∧ q ≤ 40) : wrap64 (15 + wrap64 (Int.tdiv q 6)) = 15 + q / 6 := by
  rw [Int.tdiv_eq_ediv_of_nonneg h.1, wrap_id (x := q / 6) (by omega) (by omega), wrap_id (by omega) (by omega)]
theorem shl15 {q : Int} (h : 0 ≤ q ∧ q ≤ 40) : shl .i64 1 (15 + q / 6) = smallP q := by
  rw [shl_val (by omega) (by omega), Int.one_mul]
  rfl
theorem size_val {w : Int} (h : -20000 ≤ w ∧ w ≤ 20000) : mx w (wrap64 (-w)) = absN w := by
  rw [wrap_id (by omega) (by omega)]
  unfold mx absN
  by_cases c : w < 0
  · rw [if_pos c, if_pos (by omega)]
  · rw [if_neg c, if_neg (by omega)]
theorem small_ev (w q p : Int) : Ev (fun k => impl_SmallLevel.f k w q p) (smallN w q p) := by
  have hbad : ∀ x y z : Int, Ev (fun k => impl_SmallLevel.j0 k x y z true) 0 := fun x y z => Ev.step (f := fun _ => some 0) (fun k => by simp only [impl_SmallLevel.j0]; rfl) (Ev.now _)
  unfold impl_SmallLevel.f smallN
  simp only [within_eq, Option.bind_some]
  by_cases h0 : -20000 ≤ w ∧ w ≤ 20000
  · by_cases h1 : 0 ≤ q ∧ q ≤ 40
    · by_cases h2 : 0 ≤ p ∧ p ≤ 15
      · simp only [h0, h1, h2, and_self, decide_true, if_true, Bool.not_true]
        have hs := share_ev q p
        obtain ⟨e1, e2, e3⟩ := small_steps (absN_in h0) h1 h2
        have hn := smallP_in h1
        have g : (0 : Int) ≤ 15 + q / 6 := by omega
        have n0 : ¬ smallP q = 0 := by omega
        refine Ev.step (fun k => by simp only [impl_SmallLevel.j0, Bool.false_eq_true, if_false, exp15 h1, g, if_true, impl_size.f, Option.bind_some, size_val h0, shl15 h1, n0]; rfl) (Ev.bind hs ?_)
        simp only [e1, impl_signed.f]
        unfold sgnN
        by_cases c : w < 0
        · simp only [c, if_true, Option.bind_some]
          rw [wrap_id (by omega) (by omega)]
          exact Ev.now _
        · simp only [c, if_false, Option.bind_some]
          exact Ev.now _
      · simp only [h0, h1, h2, and_self, and_false, decide_true, decide_false, if_true, if_false, Bool.not_false]
        exact hbad _ _ _
    · simp only [h0, h1, and_self, false_and, and_false, decide_true, decide_false, if_true, if_false, Bool.false_eq_true]
      exact hbad _ _ _
  · simp only [h0, false_and, decide_false, if_false, Bool.false_eq_true]
    exact hbad _ _ _

def stepT (m : Int) : Int := if m = 0 then 10 else if m = 1 then 11 else if m = 2 then 13 else if m = 3 then 14 else if m = 4 then 16 else 18
def stepN (q : Int) : Int := if 0 ≤ q ∧ q ≤ 40 then stepT (q % 6) * 2 ^ (q / 6).toNat else 0
theorem stepT_in (m : Int) : 10 ≤ stepT m ∧ stepT m ≤ 18 := by
  unfold stepT
  repeat' split
  all_goals omega
theorem stepN_in {q : Int} (h : 0 ≤ q ∧ q ≤ 40) : 10 ≤ stepN q ∧ stepN q ≤ 1152 := by
  unfold stepN
  rw [if_pos h]
  have hs := stepT_in (q % 6)
  have hp := pow_le_nat (a := (q / 6).toNat) (b := 6) (by omega)
  have hp1 := pow_ge1 (q / 6).toNat
  have a1 : stepT (q % 6) * 2 ^ (q / 6).toNat ≤ 18 * 2 ^ 6 := Int.mul_le_mul hs.2 hp (by omega) (by omega)
  have a2 : stepT (q % 6) * 1 ≤ stepT (q % 6) * 2 ^ (q / 6).toNat := Int.mul_le_mul_of_nonneg_left hp1 (by omega)
  omega
theorem step_val (q : Int) : impl_StepOf.f q = some (stepN q) := by
  unfold impl_StepOf.f stepN
  simp only [within_eq, Option.bind_some]
  by_cases h : 0 ≤ q ∧ q ≤ 40
  · have e : wrap64 (Int.tdiv q 6) = q / 6 := by rw [Int.tdiv_eq_ediv_of_nonneg h.1, wrap_id (by omega) (by omega)]
    have g1 : (0 : Int) ≤ q % 6 := by omega
    have g2 : q % 6 < (([10, 11, 13, 14, 16, 18] : List Int).length : Int) := by simp only [List.length_cons, List.length_nil]; omega
    have g3 : (0 : Int) ≤ q / 6 := by omega
    have hr : rd [10, 11, 13, 14, 16, 18] (q % 6) = stepT (q % 6) := by
      have hq : q % 6 = 0 ∨ q % 6 = 1 ∨ q % 6 = 2 ∨ q % 6 = 3 ∨ q % 6 = 4 ∨ q % 6 = 5 := by omega
      generalize q % 6 = m at hq
      rcases hq with rfl | rfl | rfl | rfl | rfl | rfl <;> rfl
    have hs := stepT_in (q % 6)
    simp only [h, and_self, decide_true, if_true, e, Int.tmod_eq_emod_of_nonneg h.1, g1, g2, g3, hr]
    rw [shl_val (by omega) (by omega)]
  · simp only [h, decide_false, if_false, Bool.false_eq_true]
def largeQ (a s : Int) : Int := (a + s / 2) / s
def largeN (w q : Int) : Int := if (-20000 ≤ w ∧ w ≤ 20000) ∧ 0 ≤ q ∧ q ≤ 40 then sgnN w (largeQ (absN w) (stepN q)) else 0
theorem large_steps {a s : Int} (ha : 0 ≤ a ∧ a ≤ 20000) (hs : 10 ≤ s ∧ s ≤ 1152) : wrap64 (Int.tdiv (wrap64 (a + (wrap64 (Int.tdiv s 2)))) s) = largeQ a s ∧ 0 ≤ largeQ a s ∧ largeQ a s ≤ 30000 := by
  unfold largeQ
  have hq := quot_in (x := a + s / 2) (n := s) (by omega) (by omega)
  rw [Int.tdiv_eq_ediv_of_nonneg (a := s) (by omega), wrap_id (x := s / 2) (by omega) (by omega), wrap_id (x := a + s / 2) (by omega) (by omega), Int.tdiv_eq_ediv_of_nonneg (a := a + s / 2) (by omega)]
  have hb : a + s / 2 ≤ 30000 := by omega
  generalize (a + s / 2) / s = z at hq ⊢
  exact ⟨wrap_id (by omega) (by omega), hq.1, by omega⟩
theorem large_ev (w q : Int) : Ev (fun k => impl_LargeLevel.f k w q) (largeN w q) := by
  have hbad : ∀ x y : Int, Ev (fun k => impl_LargeLevel.j0 k x y true) 0 := fun x y => Ev.step (f := fun _ => some 0) (fun k => by simp only [impl_LargeLevel.j0]; rfl) (Ev.now _)
  unfold impl_LargeLevel.f largeN
  simp only [within_eq, Option.bind_some]
  by_cases h0 : -20000 ≤ w ∧ w ≤ 20000
  · by_cases h1 : 0 ≤ q ∧ q ≤ 40
    · simp only [h0, h1, and_self, decide_true, if_true, Bool.not_true]
      have hs := stepN_in h1
      obtain ⟨e1, e2, e3⟩ := large_steps (absN_in h0) hs
      have n0 : ¬ stepN q = 0 := by omega
      refine Ev.step (f := fun _ => some (sgnN w (largeQ (absN w) (stepN q)))) (fun k => ?_) (Ev.now _)
      simp only [impl_LargeLevel.j0, Bool.false_eq_true, if_false, step_val, impl_size.f, Option.bind_some, size_val h0, n0, e1, impl_signed.f]
      unfold sgnN
      by_cases c : w < 0
      · simp only [c, if_true, Option.bind_some]
        rw [wrap_id (by omega) (by omega)]
      · simp only [c, if_false, Option.bind_some]
    · simp only [h0, h1, and_self, and_false, decide_true, decide_false, if_true, if_false, Bool.not_false]
      exact hbad _ _
  · simp only [h0, false_and, decide_false, if_false, Bool.false_eq_true]
    exact hbad _ _
theorem largeQ_mono {a b s : Int} (hs : 10 ≤ s) (h : a ≤ b) : largeQ a s ≤ largeQ b s := Int.ediv_le_ediv (by omega) (by omega)
theorem largeQ_le {a s : Int} (hs : 10 ≤ s) (ha : 0 ≤ a) : largeQ a s ≤ a := by
  unfold largeQ
  refine Int.le_of_lt_add_one (Int.ediv_lt_of_lt_mul (by omega) ?_)
  have e : (a + 1) * s = a * s + s := by rw [Int.add_mul, Int.one_mul]
  have h : a * 10 ≤ a * s := Int.mul_le_mul_of_nonneg_left hs ha
  rw [e]
  omega
theorem largeQ_pos {a s : Int} (hs : 10 ≤ s) (h : s ≤ a) : 1 ≤ largeQ a s := by
  unfold largeQ
  exact (Int.le_ediv_iff_mul_le (by omega)).2 (by omega)
theorem smallQ_pos {a q p : Int} (h1 : 0 ≤ q ∧ q ≤ 40) (h2 : 0 ≤ p ∧ p ≤ 15) (h : 2000 ≤ a) : 1 ≤ smallQ a q p := by
  have hn := smallP_in h1
  have ht := shareN_in h1 h2
  have hm : 2000 * 2893 ≤ a * shareN q p := Int.mul_le_mul h ht.1 (by omega) (by omega)
  unfold smallQ
  exact (Int.le_ediv_iff_mul_le (by omega)).2 (by omega)
theorem smallQ_mono {a b q p : Int} (h1 : 0 ≤ q ∧ q ≤ 40) (h2 : 0 ≤ p ∧ p ≤ 15) (h : a ≤ b) : smallQ a q p ≤ smallQ b q p := by
  have hn := smallP_in h1
  have ht := shareN_in h1 h2
  have hm : a * shareN q p ≤ b * shareN q p := Int.mul_le_mul_of_nonneg_right h (by omega)
  exact Int.ediv_le_ediv (by omega) (by omega)

def scaleN (q p : Int) : Int := if (0 ≤ q ∧ q ≤ 40) ∧ 0 ≤ p ∧ p ≤ 15 then scaleT (q % 6) (kindN p) * 2 ^ (q / 6).toNat else 0
theorem scaleT_in (q k : Int) : 10 ≤ scaleT q k ∧ scaleT q k ≤ 29 := by
  unfold scaleT
  repeat' split
  all_goals omega
theorem scale_ev (q p : Int) : Ev (fun k => impl_ScaleOf.f k q p) (scaleN q p) := by
  unfold impl_ScaleOf.f scaleN
  simp only [within_eq, Option.bind_some]
  by_cases h1 : 0 ≤ q ∧ q ≤ 40
  · by_cases h2 : 0 ≤ p ∧ p ≤ 15
    · simp only [if_true, h1, h2, and_self, decide_true]
      refine Ev.bind (kind_ev p) ?_
      have hs := scaleT_in (q % 6) (kindN p)
      have e : wrap64 (Int.tdiv q 6) = q / 6 := by rw [Int.tdiv_eq_ediv_of_nonneg h1.1, wrap_id (by omega) (by omega)]
      rw [if_pos (kindN_in h2), Int.tmod_eq_emod_of_nonneg h1.1, e, shl_val (by omega) (by omega)]
      exact Ev.now _
    · simp only [h1, and_self, decide_true, decide_eq_false h2, if_true, h2, and_false, if_false, Bool.false_eq_true]
      exact Ev.now _
  · simp only [decide_eq_false h1, if_false, h1, false_and, Bool.false_eq_true]
    exact Ev.now _

theorem absN_neg (w : Int) : absN (-w) = absN w := by unfold absN; split <;> split <;> omega
theorem sgn_neg {w n : Int} (h : w = 0 → n = 0) : sgnN (-w) n = -sgnN w n := by
  unfold sgnN
  by_cases c : w = 0
  · have := h c
    subst c this
    decide
  · split <;> split <;> omega
theorem largeQ_zero {s : Int} (hs : 10 ≤ s) : largeQ 0 s = 0 := by
  unfold largeQ
  exact Int.ediv_eq_zero_of_lt (by omega) (by omega)
theorem smallQ_zero {q p : Int} (h1 : 0 ≤ q ∧ q ≤ 40) : smallQ 0 q p = 0 := by
  have hn := smallP_in h1
  unfold smallQ
  rw [Int.zero_mul]
  exact Int.ediv_eq_zero_of_lt (by omega) (by omega)
theorem large_odd {w q : Int} (hw : -20000 ≤ w ∧ w ≤ 20000) (hq : 0 ≤ q ∧ q ≤ 40) : largeN (-w) q = -largeN w q := by
  unfold largeN
  rw [if_pos ⟨by omega, hq⟩, if_pos ⟨hw, hq⟩, absN_neg]
  refine sgn_neg fun h => ?_
  subst h
  exact largeQ_zero (stepN_in hq).1
theorem small_odd {w q p : Int} (hw : -20000 ≤ w ∧ w ≤ 20000) (hq : 0 ≤ q ∧ q ≤ 40) (hp : 0 ≤ p ∧ p ≤ 15) : smallN (-w) q p = -smallN w q p := by
  unfold smallN
  rw [if_pos ⟨by omega, hq, hp⟩, if_pos ⟨hw, hq, hp⟩, absN_neg]
  refine sgn_neg fun h => ?_
  subst h
  exact smallQ_zero hq
theorem small_zero {q p : Int} (hq : 0 ≤ q ∧ q ≤ 40) (hp : 0 ≤ p ∧ p ≤ 15) : smallN 0 q p = 0 := by
  unfold smallN
  rw [if_pos ⟨by omega, hq, hp⟩]
  have : absN 0 = 0 := rfl
  rw [this, smallQ_zero hq]
  rfl
theorem small_pos {w q p : Int} (hw : 0 ≤ w ∧ w ≤ 20000) (hq : 0 ≤ q ∧ q ≤ 40) (hp : 0 ≤ p ∧ p ≤ 15) : 0 ≤ smallN w q p := by
  unfold smallN
  rw [if_pos ⟨by omega, hq, hp⟩]
  unfold sgnN
  rw [if_neg (by omega)]
  exact (small_steps (absN_in (by omega)) hq hp).2.1
theorem small_in {w q p : Int} (hw : -20000 ≤ w ∧ w ≤ 20000) (hq : 0 ≤ q ∧ q ≤ 40) (hp : 0 ≤ p ∧ p ≤ 15) : -300000000 ≤ smallN w q p ∧ smallN w q p ≤ 300000000 := by
  unfold smallN
  rw [if_pos ⟨hw, hq, hp⟩]
  have := small_steps (absN_in hw) hq hp
  unfold sgnN
  split <;> omega
theorem pow_next {q : Int} (h : 0 ≤ q) : (2 : Int) ^ ((q + 6) / 6).toNat = 2 * 2 ^ (q / 6).toNat := by
  have e : ((q + 6) / 6).toNat = (q / 6).toNat + 1 := by omega
  rw [e, Int.pow_succ]
  omega
theorem step_next {q : Int} (h : 0 ≤ q ∧ q ≤ 34) : stepN (q + 6) = 2 * stepN q := by
  unfold stepN
  rw [if_pos (by omega), if_pos (by omega), pow_next h.1, show (q + 6) % 6 = q % 6 by omega, ← Int.mul_assoc, ← Int.mul_assoc, Int.mul_comm (stepT (q % 6)) 2]
theorem scale_next {q p : Int} (h : 0 ≤ q ∧ q ≤ 34) (hp : 0 ≤ p ∧ p ≤ 15) : scaleN (q + 6) p = 2 * scaleN q p := by
  unfold scaleN
  rw [if_pos ⟨by omega, hp⟩, if_pos ⟨by omega, hp⟩, pow_next h.1, show (q + 6) % 6 = q % 6 by omega, ← Int.mul_assoc, ← Int.mul_assoc, Int.mul_comm (scaleT (q % 6) (kindN p)) 2]
theorem scale_in {q p : Int} (h : 0 ≤ q ∧ q ≤ 40) (hp : 0 ≤ p ∧ p ≤ 15) : 10 ≤ scaleN q p ∧ scaleN q p ≤ 1856 := by
  unfold scaleN
  rw [if_pos ⟨h, hp⟩]
  have hs := scaleT_in (q % 6) (kindN p)
  have hpw := pow_le_nat (a := (q / 6).toNat) (b := 6) (by omega)
  have hp1 := pow_ge1 (q / 6).toNat
  have a1 : scaleT (q % 6) (kindN p) * 2 ^ (q / 6).toNat ≤ 29 * 2 ^ 6 := Int.mul_le_mul hs.2 hpw (by omega) (by omega)
  have a2 : scaleT (q % 6) (kindN p) * 1 ≤ scaleT (q % 6) (kindN p) * 2 ^ (q / 6).toNat := Int.mul_le_mul_of_nonneg_left hp1 (by omega)
  omega
theorem share_next {q p : Int} (h : 0 ≤ q ∧ q ≤ 34) (hp : 0 ≤ p ∧ p ≤ 15) : shareN (q + 6) p = shareN q p := by
  unfold shareN
  rw [if_pos ⟨by omega, hp⟩, if_pos ⟨by omega, hp⟩, show (q + 6) % 6 = q % 6 by omega]
/-- What is kept of a number is off by half a step at most. -/
theorem large_near {w q : Int} (hw : -19998 ≤ w ∧ w ≤ 19998) (hq : 0 ≤ q ∧ q ≤ 40) :
    (-5000 ≤ largeN w q ∧ largeN w q ≤ 5000) ∧ -stepN q ≤ 2 * (largeN w q * stepN q - w) ∧ 2 * (largeN w q * stepN q - w) ≤ stepN q := by
  have hs := stepN_in hq
  have ha := absN_in (w := w) (by omega)
  have hQ := large_steps ha hs
  have haw : absN w = if w < 0 then -w else w := rfl
  unfold largeN
  rw [if_pos ⟨by omega, hq⟩]
  have e1 : largeQ (absN w) (stepN q) * stepN q ≤ absN w + stepN q / 2 := Int.ediv_mul_le _ (by omega)
  have e2 : absN w + stepN q / 2 < largeQ (absN w) (stepN q) * stepN q + stepN q := by
    have := Int.lt_ediv_add_one_mul_self (absN w + stepN q / 2) (show 0 < stepN q by omega)
    rw [Int.add_mul, Int.one_mul] at this
    exact this
  have e3 : largeQ (absN w) (stepN q) * 10 ≤ largeQ (absN w) (stepN q) * stepN q := Int.mul_le_mul_of_nonneg_left hs.1 hQ.2.1
  unfold sgnN
  generalize stepN q = s at *
  generalize absN w = a at *
  generalize largeQ a s = z at *
  by_cases c : w < 0
  · rw [if_pos c] at haw ⊢
    rw [Int.neg_mul]
    generalize z * s = m at *
    omega
  · rw [if_neg c] at haw ⊢
    generalize z * s = m at *
    omega

theorem and_le (x : Int) (m : Nat) (hm : m < 9223372036854775808) : 0 ≤ Go.bits .and .i64 x (m : Int) ∧ Go.bits .and .i64 x (m : Int) ≤ (m : Int) := by
  have h : (BitVec.ofInt 64 x &&& BitVec.ofInt 64 (m : Int)).toNat ≤ m := by
    rw [BitVec.toNat_and]
    refine Nat.le_trans Nat.and_le_right ?_
    rw [BitVec.ofInt_natCast, BitVec.toNat_ofNat]
    exact Nat.mod_le _ _
  have e : Go.bits .and .i64 x (m : Int) = IntKind.i64.wrap (((BitVec.ofInt 64 x &&& BitVec.ofInt 64 (m : Int)).toNat : Nat) : Int) := rfl
  rw [e, IntKind.wrap_i64]
  omega

theorem rounds_ev {α : Type} {g : Nat → Option α} {r : α} (h : Ev g r) : ∃ k, g k = some r := h.rounds
theorem byte_at (b : List Int) (hb : b.length ≤ 140737488351232) (i h : Int) (h0 : 0 ≤ i) (h1 : i ≤ (b.length : Int)) :
    ∃ x i' h', spec_l01Byte.f b i h = some (x, i', h') ∧ 0 ≤ x ∧ x ≤ 255 ∧ 0 ≤ i' ∧ i' ≤ (b.length : Int) := by
  unfold spec_l01Byte.f
  by_cases c : i < (b.length : Int)
  · rw [if_pos c, if_pos h0]
    exact ⟨_, _, _, rfl, (and_le _ 255 (by decide)).1, (and_le _ 255 (by decide)).2, by rw [wrap_id (by omega) (by omega)]; omega, by rw [wrap_id (by omega) (by omega)]; omega⟩
  · rw [if_neg c]
    exact ⟨_, _, _, rfl, (and_le _ 255 (by decide)).1, (and_le _ 255 (by decide)).2, h0, h1⟩
theorem below_at (b : List Int) (hb : b.length ≤ 140737488351232) (i h n : Int) (h0 : 0 ≤ i) (h1 : i ≤ (b.length : Int)) (hn : 0 < n) :
    ∃ x i' h', spec_l01Below.f b i h n = some (x, i', h') ∧ 0 ≤ x ∧ x < n ∧ 0 ≤ i' ∧ i' ≤ (b.length : Int) := by
  unfold spec_l01Below.f
  rw [if_neg (by omega)]
  obtain ⟨x, i1, s1, e1, x0, x1, p1, q1⟩ := byte_at b hb i h h0 h1
  by_cases c : n ≤ 256
  · rw [if_pos c, e1, Option.bind_some, if_neg (by omega)]
    exact ⟨_, _, _, rfl, by simp only [Int.tmod_eq_emod_of_nonneg x0]; exact Int.emod_nonneg _ (by omega), by simp only [Int.tmod_eq_emod_of_nonneg x0]; exact Int.emod_lt_of_pos _ hn, p1, q1⟩
  · obtain ⟨y, i2, s2, e2, y0, y1, p2, q2⟩ := byte_at b hb i1 s1 p1 q1
    obtain ⟨z, i3, s3, e3, z0, z1, p3, q3⟩ := byte_at b hb i2 s2 p2 q2
    obtain ⟨w, i4, s4, e4, w0, w1, p4, q4⟩ := byte_at b hb i3 s3 p3 q3
    rw [if_neg c, e1, Option.bind_some]
    simp only []
    rw [e2, Option.bind_some]
    simp only []
    rw [e3, Option.bind_some]
    simp only []
    rw [e4, Option.bind_some, if_neg (by omega)]
    have hs : wrap64 (wrap64 (wrap64 (wrap64 (x * 16777216) + wrap64 (y * 65536)) + wrap64 (z * 256)) + w) = x * 16777216 + y * 65536 + z * 256 + w := by
      rw [wrap_id (x := x * 16777216) (by omega) (by omega), wrap_id (x := y * 65536) (by omega) (by omega), wrap_id (x := z * 256) (by omega) (by omega), wrap_id (x := x * 16777216 + y * 65536) (by omega) (by omega), wrap_id (x := x * 16777216 + y * 65536 + z * 256) (by omega) (by omega), wrap_id (by omega) (by omega)]
    refine ⟨_, _, _, rfl, ?_, ?_, p4, q4⟩
    · simp only [hs]; rw [Int.tmod_eq_emod_of_nonneg (by omega)]; exact Int.emod_nonneg _ (by omega)
    · simp only [hs]; rw [Int.tmod_eq_emod_of_nonneg (by omega)]; exact Int.emod_lt_of_pos _ hn
theorem below_any (b : List Int) (hb : b.length ≤ 140737488351232) (i h n : Int) (h0 : 0 ≤ i) (h1 : i ≤ (b.length : Int)) :
    ∃ x i' h', spec_l01Below.f b i h n = some (x, i', h') ∧ 0 ≤ x ∧ (0 < n → x < n) ∧ 0 ≤ i' ∧ i' ≤ (b.length : Int) := by
  by_cases hn : 0 < n
  · obtain ⟨x, i', h', e, x0, x1, p, q⟩ := below_at b hb i h n h0 h1 hn
    exact ⟨x, i', h', e, x0, fun _ => x1, p, q⟩
  · exact ⟨0, i, h, by unfold spec_l01Below.f; rw [if_pos (by omega)], by omega, fun h => absurd h hn, h0, h1⟩
theorem new_loop (l : List Int) (hl : l.length ≤ 140737488351232) (d : Nat) : ∀ h i : Int, 0 ≤ i → (l.length : Int) - i = d → ∃ h', Ev (fun k => spec_l01New.l0 k l h i) (l, 0, h') := by
  induction d with
  | zero =>
    intro h i h0 hd
    exact ⟨h, Ev.step (f := fun _ => some (l, 0, h)) (fun k => by simp only [spec_l01New.l0]; rw [if_neg (by omega)]) (Ev.now _)⟩
  | succ d ih =>
    intro h i h0 hd
    by_cases c : i < 4000
    · obtain ⟨h', e⟩ := ih (Go.bits .and .i64 (wrap64 ((wrap64 ((wrap64 (h * 131)) + (wrap64 (rd l i)))) + 7)) 1073741823) (i + 1) (by omega) (by omega)
      refine ⟨h', Ev.step (fun k => ?_) e⟩
      simp only [spec_l01New.l0]
      rw [if_pos (by omega), if_pos c, if_pos h0, wrap_id (x := i + 1) (by omega) (by omega)]
    · exact ⟨h, Ev.step (f := fun _ => some (l, 0, h)) (fun k => by simp only [spec_l01New.l0]; rw [if_pos (by omega), if_neg c]) (Ev.now _)⟩
theorem new_ev (l : List Int) (hl : l.length ≤ 140737488351232) : ∃ h, Ev (fun k => spec_l01New.f k l) (l, 0, h) := by
  obtain ⟨h, e⟩ := new_loop l hl l.length (wrap64 (94701 + (l.length : Int))) 0 (by omega) (by omega)
  exact ⟨h, e⟩
theorem rd_mem {l : List Int} {P : Int → Prop} (h : ∀ x ∈ l, P x) (i : Int) (h0 : 0 ≤ i) (h1 : i < (l.length : Int)) : P (rd l i) := by
  unfold rd
  rw [List.getD_eq_getElem?_getD, List.getElem?_eq_getElem (by omega)]
  exact h _ (List.getElem_mem _)
theorem places_loop (b : List Int) (hb : b.length ≤ 140737488351232) (d : Nat) : ∀ (out : List Int) (j i h : Int), 0 ≤ j → 12 - j = (d : Int) → (out.length : Int) = j → (∀ x ∈ out, 0 ≤ x ∧ x < 10000) → 0 ≤ i → i ≤ (b.length : Int) →
    ∃ p, Ev (fun k => spec_DrawPlaces.l0 k out j b i h) p ∧ p.length = 12 ∧ ∀ x ∈ p, 0 ≤ x ∧ x < 10000 := by
  induction d with
  | zero =>
    intro out j i h hj hd ho hx h0 h1
    exact ⟨out, Ev.step (f := fun _ => some out) (fun k => by simp only [spec_DrawPlaces.l0]; rw [if_neg (by omega)]) (Ev.now _), by omega, hx⟩
  | succ d ih =>
    intro out j i h hj hd ho hx h0 h1
    obtain ⟨x, i', h', e, x0, x1, p, q⟩ := below_at b hb i h 10000 h0 h1 (by omega)
    obtain ⟨r, er, hr⟩ := ih (out ++ [x]) (j + 1) i' h' (by omega) (by omega) (by simp; omega) (by
      intro y hy
      rcases List.mem_append.1 hy with hy | hy
      · exact hx y hy
      · simp at hy; subst hy; exact ⟨x0, x1⟩) p q
    refine ⟨r, Ev.step (fun k => ?_) er, hr⟩
    simp only [spec_DrawPlaces.l0]
    rw [if_pos (by omega), e, Option.bind_some, if_pos (by omega), wrap_id (x := j + 1) (by omega) (by omega)]
theorem places_ev (l : List Int) (hl : l.length ≤ 140737488351232) : ∃ p, Ev (fun k => spec_DrawPlaces.f k l) p ∧ p.length = 12 ∧ ∀ x ∈ p, 0 ≤ x ∧ x < 10000 := by
  obtain ⟨h, e⟩ := new_ev l hl
  obtain ⟨x, i', h', e1, x0, x1, p0, p1⟩ := byte_at l hl 0 h (by omega) (by omega)
  obtain ⟨p, ep, hp⟩ := places_loop l hl 12 [] 0 i' h' (by omega) (by omega) rfl (by simp) p0 p1
  refine ⟨p, ?_, hp⟩
  unfold spec_DrawPlaces.f
  refine Ev.bind e ?_
  simp only [e1, Option.bind_some]
  exact ep

theorem FnSteps : laws_FnSteps.Pure := by
  intro l _ hl _
  refine Ev.rounds ?_
  unfold laws_FnSteps.f laws_big.f
  simp only [Option.bind_some]
  by_cases c : (l.length : Int) > 1048576
  · simp only [c, decide_true, if_true]; exact Ev.now _
  · simp only [c, decide_false, Bool.false_eq_true, if_false]
    obtain ⟨p, ep, hp, hin⟩ := places_ev l (by omega)
    refine Ev.bind ep ?_
    have r0 := rd_mem hin 0 (by omega) (by omega)
    have r1 := rd_mem hin 1 (by omega) (by omega)
    have r2 := rd_mem hin 2 (by omega) (by omega)
    have r3 := rd_mem hin 3 (by omega) (by omega)
    have g0 : 0 < (p.length : Int) := by omega
    have g1 : 1 < (p.length : Int) := by omega
    have g2 : 2 < (p.length : Int) := by omega
    have g3 : 3 < (p.length : Int) := by omega
    have ew : wrap64 (wrap64 (rd p 1 * 2) - wrap64 (rd p 2 * 2)) = rd p 1 * 2 - rd p 2 * 2 := by
      rw [wrap_id (x := rd p 1 * 2) (by omega) (by omega), wrap_id (x := rd p 2 * 2) (by omega) (by omega), wrap_id (by omega) (by omega)]
    have eq : Int.tmod (rd p 0) 35 = rd p 0 % 35 := Int.tmod_eq_emod_of_nonneg r0.1
    have ek : Int.tmod (rd p 3) 16 = rd p 3 % 16 := Int.tmod_eq_emod_of_nonneg r3.1
    simp only [g0, g1, g2, if_true, ew, eq]
    have hw : -19998 ≤ rd p 1 * 2 - rd p 2 * 2 ∧ rd p 1 * 2 - rd p 2 * 2 ≤ 19998 := by clear ew eq ek; omega
    have hq : 0 ≤ rd p 0 % 35 ∧ rd p 0 % 35 ≤ 34 := by clear ew eq ek; omega
    have hk : 0 ≤ rd p 3 % 16 ∧ rd p 3 % 16 ≤ 15 := by clear ew eq ek; omega
    generalize rd p 1 * 2 - rd p 2 * 2 = w at hw
    generalize rd p 0 % 35 = q at hq
    clear ew eq r0 r1 r2 r3 ep g0 g1 g2 hin hp hl
    have hq' : 0 ≤ q ∧ q ≤ 40 := by omega
    have hs := stepN_in hq'
    obtain ⟨n1, n2, n3⟩ := large_near hw hq'
    have eL := large_ev w q
    have eM := large_ev (-w) q
    have eB : impl_LargeBack.f (largeN w q) q = some (largeN w q * stepN q) := by
      unfold impl_LargeBack.f
      rw [within_eq, Option.bind_some, if_pos (decide_eq_true n1), step_val, Option.bind_some, wrap_id (by omega) (by omega)]
    rw [large_odd (by omega) hq'] at eM
    have eS := small_ev w q (rd p 3 % 16)
    have eT := small_ev (-w) q (rd p 3 % 16)
    rw [small_odd (by omega) hq' hk] at eT
    have eZ := small_ev 0 q (rd p 3 % 16)
    rw [small_zero hq' hk] at eZ
    have eA := scale_ev (q + 6) (rd p 3 % 16)
    rw [scale_next hq hk] at eA
    have eC := scale_ev q (rd p 3 % 16)
    have eH := share_ev (q + 6) (rd p 3 % 16)
    rw [share_next hq hk] at eH
    have eG := share_ev q (rd p 3 % 16)
    have hsc := scale_in hq' hk
    have hsm := small_in (w := w) (by omega) hq' hk
    have hpos := fun h : 0 ≤ w => small_pos (w := w) ⟨h, by omega⟩ hq' hk
    have k1 : stepN q ≥ 10 := hs.1
    have k2 : wrap64 (2 * stepN q) = 2 * stepN q := wrap_id (by omega) (by omega)
    have k3 : wrap64 (-largeN w q) = -largeN w q := wrap_id (by omega) (by omega)
    have k4 : wrap64 (-smallN w q (rd p 3 % 16)) = -smallN w q (rd p 3 % 16) := wrap_id (by omega) (by omega)
    have k5 : wrap64 (2 * scaleN q (rd p 3 % 16)) = 2 * scaleN q (rd p 3 % 16) := wrap_id (by omega) (by omega)
    have k6 : scaleN q (rd p 3 % 16) ≥ 10 := hsc.1
    have v1 : wrap64 (-w) = -w := wrap_id (by omega) (by omega)
    have v2 : wrap64 (q + 6) = q + 6 := wrap_id (by omega) (by omega)
    have hj : ∀ d : Int, -stepN q ≤ 2 * d → 2 * d ≤ stepN q → Ev (fun k => laws_FnSteps.j0 k p q w (largeN w q) d) true := by
      intro d d0 d1
      have k7 : wrap64 (2 * d) ≤ stepN q := by rw [wrap_id (by omega) (by omega)]; exact d1
      refine Ev.step (fun k => by simp only [laws_FnSteps.j0, g3, if_true, ek]; rfl) (Ev.bind eS ?_)
      simp only [step_val, Option.bind_some, v1, v2, k1, step_next hq, k2, if_true, k7]
      refine Ev.bind eM ?_
      simp only [k3, if_true]
      refine Ev.bind eT ?_
      simp only [k4, if_true]
      by_cases cw : w < 0
      · simp only [cw, if_true]
        refine Ev.bind eZ ?_
        simp only [if_true]
        refine Ev.bind eA (Ev.bind eC ?_)
        simp only [k5, if_true]
        refine Ev.bind eC ?_
        simp only [k6, if_true]
        refine Ev.bind eH (Ev.bind eG ?_)
        simp only [beq_self_eq_true]
        exact Ev.now _
      · have k8 := hpos (by omega)
        simp only [cw, if_false, k8, if_true]
        refine Ev.bind eZ ?_
        simp only [if_true]
        refine Ev.bind eA (Ev.bind eC ?_)
        simp only [k5, if_true]
        refine Ev.bind eC ?_
        simp only [k6, if_true]
        refine Ev.bind eH (Ev.bind eG ?_)
        simp only [beq_self_eq_true]
        exact Ev.now _
    refine Ev.bind eL ?_
    simp only [eB, Option.bind_some]
    have v3 : wrap64 (largeN w q * stepN q - w) = largeN w q * stepN q - w := wrap_id (by omega) (by omega)
    rw [v3]
    clear v3
    by_cases cd : largeN w q * stepN q - w < 0
    · rw [wrap_id (x := -(largeN w q * stepN q - w)) (by omega) (by omega)]
      simp only [cd, if_true]
      exact hj _ (by omega) (by omega)
    · simp only [cd, if_false]
      exact hj _ (by omega) (by omega)

end Go.Proofs.Ythoifppjjdmoaaa.Pure
