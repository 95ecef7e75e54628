/- The program's ReadTile answers what the reference's ReadTile answers, for all rows, places, numbers and conditions, in new memory. No condition beside the row's own. -/
import Derived.Test.YtnaccgommclhaaaQFnExactReadTilex11
namespace Go.Proofs.Ytnaccgommclhaaa.Pure
open Go.RowKit Go.Proofs.Ytnaccgommclhaaa.QFnExactReadTile Go.Proofs.YtnaccgommclhaaaW.PrintWords Go.Proofs.YtnaccgommclhaaaW.PrintLast Go.Proofs.YtnaccgommclhaaaW.PrintMore
set_option linter.unusedVariables false
set_option linter.unusedSimpArgs false
theorem wrap_id {x : Int} (h0 : -9223372036854775808 ≤ x) (h1 : x ≤ 9223372036854775807) : wrap64 x = x := by
 unfold wrap64
 omega
theorem within_eq (a b c : Int) : impl_within.f a b c = some (decide (b ≤ a ∧ a ≤ c)) := by
 unfold impl_within.f
 by_cases h : a ≥ b
 ·rw [if_pos h]; congr 1; rw [decide_eq_decide]; omega
 ·rw [if_neg h]; congr 1; symm; rw [decide_eq_false_iff_not]; omega
theorem in_eq (a b c : Int) : spec_l01In.f a b c = some (decide (b ≤ a ∧ a ≤ c)) := by
 unfold spec_l01In.f
 by_cases h : a ≥ b
 ·rw [if_pos h]; congr 1; rw [decide_eq_decide]; omega
 ·rw [if_neg h]; congr 1; symm; rw [decide_eq_false_iff_not]; omega
theorem down {P : Nat → Prop} (n : Nat) (h0 : P n) (hs : ∀ i, i < n → P (i + 1) → P i) : ∀ i, i ≤ n → P i := by
 intro i hi
 obtain ⟨d, hd⟩ : ∃ d, d = n - i := ⟨_, rfl⟩
 induction d generalizing i with
 | zero =>
  have : i = n := by omega
  subst this; exact h0
 | succ d ih => exact hs i (by omega) (ih (i + 1) (by omega) (by omega))
theorem rd_nat (l : List Int) (i : Nat) (h : i < l.length) : rd l (i : Int) = l[i] := by
 unfold rd
 rw [List.getD_eq_getElem?_getD, Int.toNat_natCast, List.getElem?_eq_getElem h]; rfl
theorem cast1 (i : Nat) : ((i : Nat) : Int) + 1 = ((i + 1 : Nat) : Int) := rfl
theorem mix_set {α : Type} (l z : List α) (i : Nat) (hi : i < l.length) (hz : i < z.length) : (l.take i ++ z.drop i).set i l[i] = l.take (i + 1) ++ z.drop (i + 1) := by
 rw [List.set_append_right _ _ (by simp; omega)]
 rw [show i - (l.take i).length = 0 by simp; omega]
 rw [List.drop_eq_getElem_cons hz, List.set_cons_zero, List.take_succ_eq_append_getElem hi, List.append_assoc]; rfl
theorem mix_length {α : Type} (l z : List α) (i : Nat) (h : l.length = z.length) (hi : i ≤ l.length) : (l.take i ++ z.drop i).length = l.length := by
 simp; omega
theorem mix_end {α : Type} (l z : List α) (h : l.length = z.length) : l.take l.length ++ z.drop l.length = l := by
 rw [List.take_length, h, List.drop_length, List.append_nil]
theorem mix_zero {α : Type} (l z : List α) : l.take 0 ++ z.drop 0 = z := by simp
theorem drop_cons {α : Type} {l : List α} {i : Nat} (h : i < l.length) : l.drop i = l[i] :: l.drop (i + 1) := List.drop_eq_getElem_cons h
theorem eqInts_ev (a b : List Int) (ha : a.length ≤ 17592186043904) : Ev (fun k => laws_eqIntS.f k a b) (decide (a = b)) := by
 by_cases hl : a.length = b.length
 ·have H : ∀ i, i ≤ a.length → Ev (fun k => laws_eqIntS.l0 k a b (i : Int)) (decide (a.drop i = b.drop i)) := by
   refine down a.length ?_ ?_
   ·refine Ev.step (f := fun _ => some true) (fun k => ?_) ?_
    ·simp only [laws_eqIntS.l0]
     rw [if_neg (by omega)]
    ·rw [show decide (a.drop a.length = b.drop a.length) = true by rw [hl]; simp [← hl]]; exact Ev.now _
   ·intro i hi h
    have hb : i < b.length := by omega
    by_cases c : a[i] = b[i]
    ·have e : decide (a.drop i = b.drop i) = decide (a.drop (i + 1) = b.drop (i + 1)) := by
      rw [decide_eq_decide, drop_cons hi, drop_cons hb, c, List.cons.injEq]; simp only [true_and]
     rw [e]
     refine Ev.step (fun k => ?_) h
     simp only [laws_eqIntS.l0]
     rw [if_pos (by omega), if_pos (by omega), if_pos (by omega), rd_nat a i hi, rd_nat b i hb, if_pos c, wrap_id (by omega) (by omega), cast1]
    ·have e : decide (a.drop i = b.drop i) = false := by
      rw [decide_eq_false_iff_not, drop_cons hi, drop_cons hb, List.cons.injEq]; exact fun h => c h.1
     rw [e]
     refine Ev.step (f := fun _ => some false) (fun k => ?_) (Ev.now _)
     simp only [laws_eqIntS.l0]
     rw [if_pos (by omega), if_pos (by omega), if_pos (by omega), rd_nat a i hi, rd_nat b i hb, if_neg c]
  have h0 := H 0 (by omega)
  unfold laws_eqIntS.f
  refine Ev.congr (fun k => ?_) h0
  rw [if_pos (by omega)]; rfl
 ·unfold laws_eqIntS.f
  rw [show decide (a = b) = false from decide_eq_false (fun h => hl (by rw [h]))]
  refine Ev.congr (f := fun _ => some false) (fun k => ?_) (Ev.now _)
  rw [if_neg (by omega)]
/-- All numbers of a list are from lo to hi. -/
def allB (lo hi : Int) (l : List Int) : Bool := l.all fun x => decide (lo ≤ x ∧ x ≤ hi)
theorem allB_cons (lo hi x : Int) (l : List Int) : allB lo hi (x :: l) = (decide (lo ≤ x ∧ x ≤ hi) && allB lo hi l) := rfl
theorem areIn_ev (l : List Int) (n lo hi : Int) (hl : l.length ≤ 17592186043904) : Ev (fun k => impl_areIn.f k l n lo hi) (decide ((l.length : Int) = n) && allB lo hi l) := by
 have H : ∀ i, i ≤ l.length → Ev (fun k => impl_areIn.l0 k l n lo hi l (l.length : Int) (i : Int)) (decide ((l.length : Int) = n) && allB lo hi (l.drop i)) := by
  refine down l.length ?_ ?_
  ·refine Ev.step (f := fun _ => some (decide ((l.length : Int) = n))) (fun k => ?_) ?_
   ·simp only [impl_areIn.l0]
    rw [if_neg (by omega)]; congr 1
   ·rw [List.drop_length]; simp only [allB, List.all_nil, Bool.and_true]; exact Ev.now _
  ·intro i h1 h
   rw [drop_cons h1, allB_cons]
   by_cases c : lo ≤ l[i] ∧ l[i] ≤ hi
   ·rw [decide_eq_true c, Bool.true_and]
    refine Ev.step (fun k => ?_) h
    simp only [impl_areIn.l0]
    rw [if_pos (by omega), if_pos (by omega), if_pos (by omega), rd_nat l i h1, within_eq, Option.bind_some, if_pos (decide_eq_true c), wrap_id (by omega) (by omega), cast1]
   ·rw [decide_eq_false c, Bool.false_and, Bool.and_false]
    refine Ev.step (f := fun _ => some false) (fun k => ?_) (Ev.now _)
    simp only [impl_areIn.l0]
    rw [if_pos (by omega), if_pos (by omega), if_pos (by omega), rd_nat l i h1, within_eq, Option.bind_some, if_neg (by simpa using c)]
 exact H 0 (by omega)
theorem all_ev (l : List Int) (n m : Int) (hl : l.length ≤ 17592186043904) (hm : 0 ≤ m) (hm' : m ≤ 1000000000) : Ev (fun k => spec_l09All.f k l n m) (decide ((l.length : Int) = n) && allB (-m) m l) := by
 unfold spec_l09All.f
 by_cases hn : (l.length : Int) = n
 ·subst hn
  have H : ∀ i, i ≤ l.length → Ev (fun k => spec_l09All.l0 k l (l.length : Int) m (i : Int)) (allB (-m) m (l.drop i)) := by
   refine down l.length ?_ ?_
   ·refine Ev.step (f := fun _ => some true) (fun k => ?_) ?_
    ·simp only [spec_l09All.l0]
     rw [if_neg (by omega)]
    ·rw [List.drop_length]; exact Ev.now _
   ·intro i h1 h
    rw [drop_cons h1, allB_cons]
    by_cases c : -m ≤ l[i] ∧ l[i] ≤ m
    ·rw [decide_eq_true c, Bool.true_and]
     refine Ev.step (fun k => ?_) h
     simp only [spec_l09All.l0]
     rw [if_pos (by omega), if_pos (by omega), if_pos (by omega), rd_nat l i h1, wrap_id (x := -m) (by omega) (by omega), in_eq, Option.bind_some, if_pos (decide_eq_true c), wrap_id (by omega) (by omega), cast1]
    ·rw [decide_eq_false c, Bool.false_and]
     refine Ev.step (f := fun _ => some false) (fun k => ?_) (Ev.now _)
     simp only [spec_l09All.l0]
     rw [if_pos (by omega), if_pos (by omega), if_pos (by omega), rd_nat l i h1, wrap_id (x := -m) (by omega) (by omega), in_eq, Option.bind_some, if_neg (by simpa using c)]
  refine Ev.congr (fun k => by rw [if_pos rfl]) ?_
  rw [decide_eq_true rfl, Bool.true_and]
  exact H 0 (by omega)
 ·rw [decide_eq_false hn, Bool.false_and]
  exact Ev.congr (f := fun _ => some false) (fun k => by rw [if_neg hn]) (Ev.now _)
/-- n bytes from i on are signs. -/
def signB (s : ByteArray) : Nat → Nat → Bool
 | 0, _ => true
 | n + 1, i => (decide (bt s (i : Int) = 48) || decide (bt s (i : Int) = 49)) && signB s n (i + 1)
def rowB (s : ByteArray) : Bool := decide (s.size ≤ 400000) && signB s s.size 0
theorem signB_at (s : ByteArray) (n : Nat) : ∀ i, signB s n i = true → ∀ j, i ≤ j → j < i + n → bt s (j : Int) = 48 ∨ bt s (j : Int) = 49 := by
 induction n with
 | zero => intro i _ j h1 h2; omega
 | succ n ih =>
  intro i h j h1 h2
  rw [signB, Bool.and_eq_true, Bool.or_eq_true, decide_eq_true_eq, decide_eq_true_eq] at h
  by_cases e : j = i
  ·subst e; exact h.1
  ·exact ih (i + 1) h.2 j (by omega) (by omega)
theorem rowB_at {s : ByteArray} (h : rowB s = true) : s.size ≤ 400000 ∧ ∀ j, j < s.size → bt s (j : Int) = 48 ∨ bt s (j : Int) = 49 := by
 unfold rowB at h
 rw [Bool.and_eq_true, decide_eq_true_eq] at h
 exact ⟨h.1, fun j hj => signB_at s _ 0 h.2 j (by omega) (by omega)⟩
theorem row_loop (s : ByteArray) (hs : s.size ≤ 400000) : ∀ i, i ≤ s.size → Ev (fun k => impl_RowOk.l0 k s (i : Int)) (signB s (s.size - i) i) := by
 refine down s.size ?_ ?_
 ·refine Ev.step (f := fun _ => some true) (fun k => ?_) (by rw [Nat.sub_self]; exact Ev.now _)
  simp only [impl_RowOk.l0]
  rw [if_neg (by omega)]
 ·intro i hi h
  rw [show s.size - i = (s.size - (i + 1)) + 1 by omega, signB]
  by_cases c0 : bt s (i : Int) = 48
  ·rw [decide_eq_true c0, Bool.true_or, Bool.true_and]
   refine Ev.step (fun k => ?_) h
   simp only [impl_RowOk.l0]
   rw [if_pos (by omega), if_pos (by omega), if_pos c0, wrap_id (by omega) (by omega), cast1]
  ·rw [decide_eq_false c0, Bool.false_or]
   by_cases c1 : bt s (i : Int) = 49
   ·rw [decide_eq_true c1, Bool.true_and]
    refine Ev.step (fun k => ?_) h
    simp only [impl_RowOk.l0]
    rw [if_pos (by omega), if_pos (by omega), if_neg c0, if_pos c1, wrap_id (by omega) (by omega), cast1]
   ·rw [decide_eq_false c1, Bool.false_and]
    refine Ev.step (f := fun _ => some false) (fun k => ?_) (Ev.now _)
    simp only [impl_RowOk.l0]
    rw [if_pos (by omega), if_pos (by omega), if_neg c0, if_neg c1]
theorem row_ev (s : ByteArray) : Ev (fun k => impl_RowOk.f k s) (rowB s) := by
 unfold impl_RowOk.f rowB
 by_cases c : s.size ≤ 400000
 ·rw [decide_eq_true c, Bool.true_and]
  exact Ev.congr (fun k => by rw [if_neg (by omega)] <;> rfl) (row_loop s c 0 (by omega))
 ·rw [decide_eq_false c, Bool.false_and]
  exact Ev.congr (f := fun _ => some false) (fun k => by rw [if_pos (by omega)]) (Ev.now _)
theorem srow_loop (s : ByteArray) (hs : s.size ≤ 400000) : ∀ i, i ≤ s.size → Ev (fun k => spec_l02Row.l0 k s (i : Int)) (signB s (s.size - i) i) := by
 refine down s.size ?_ ?_
 ·refine Ev.step (f := fun _ => some true) (fun k => ?_) (by rw [Nat.sub_self]; exact Ev.now _)
  simp only [spec_l02Row.l0]
  rw [if_neg (by omega)]
 ·intro i hi h
  rw [show s.size - i = (s.size - (i + 1)) + 1 by omega, signB]
  by_cases c0 : bt s (i : Int) = 48
  ·rw [decide_eq_true c0, Bool.true_or, Bool.true_and]
   refine Ev.step (fun k => ?_) h
   simp only [spec_l02Row.l0]
   rw [if_pos (by omega), if_pos (by omega), if_pos c0, wrap_id (by omega) (by omega), cast1]
  ·rw [decide_eq_false c0, Bool.false_or]
   by_cases c1 : bt s (i : Int) = 49
   ·rw [decide_eq_true c1, Bool.true_and]
    refine Ev.step (fun k => ?_) h
    simp only [spec_l02Row.l0]
    rw [if_pos (by omega), if_pos (by omega), if_neg c0, if_pos c1, wrap_id (by omega) (by omega), cast1]
   ·rw [decide_eq_false c1, Bool.false_and]
    refine Ev.step (f := fun _ => some false) (fun k => ?_) (Ev.now _)
    simp only [spec_l02Row.l0]
    rw [if_pos (by omega), if_pos (by omega), if_neg c0, if_neg c1]
theorem srow_ev (s : ByteArray) : Ev (fun k => spec_RowOk.f k s) (rowB s) := by
 unfold spec_RowOk.f rowB
 by_cases c : s.size ≤ 400000
 ·rw [decide_eq_true c, Bool.true_and]
  refine Ev.congr (f := fun k => (spec_l02Row.f k s).bind fun t => some t) (fun k => by rw [if_pos (by omega)]) (Ev.bind (srow_loop s c 0 (by omega)) (Ev.now _))
 ·rw [decide_eq_false c, Bool.false_and]
  exact Ev.congr (f := fun _ => some false) (fun k => by rw [if_neg (by omega)]) (Ev.now _)
/-- The number that n signs from p on tell, behind a. -/
def bv (s : ByteArray) : Nat → Nat → Int → Int
 | 0, _, a => a
 | n + 1, p, a => bv s n (p + 1) (2 * a + (bt s (p : Int) - 48))
/-- A row of signs. -/
def RowR (s : ByteArray) : Prop := s.size ≤ 400000 ∧ ∀ j, j < s.size → bt s (j : Int) = 48 ∨ bt s (j : Int) = 49
theorem pow_step {a b : Int} {n : Nat} (h : (a + 1) * 2 ^ (n + 1) ≤ 2199023255552) (hb : b ≤ 2 * a + 1) : (b + 1) * 2 ^ n ≤ 2199023255552 := by
 have e : (a + 1) * 2 ^ (n + 1) = (2 * a + 2) * 2 ^ n := by rw [Int.pow_succ]; rw [Int.mul_comm (2 ^ n) 2, ← Int.mul_assoc]; congr 1; omega
 rw [e] at h
 have : (b + 1) * 2 ^ n ≤ (2 * a + 2) * 2 ^ n := Int.mul_le_mul_of_nonneg_right (by omega) (Int.le_of_lt (Int.pow_pos (by omega)))
 omega
theorem pow_small {a : Int} {n : Nat} (h0 : 0 ≤ a) (h : (a + 1) * 2 ^ n ≤ 2199023255552) : a ≤ 2199023255552 := by
 have h1 : (1 : Int) ≤ 2 ^ n := Int.pow_pos (by omega)
 have : (a + 1) * 1 ≤ (a + 1) * 2 ^ n := Int.mul_le_mul_of_nonneg_left h1 (by omega)
 omega
theorem sread_loop (s : ByteArray) (hr : RowR s) (p n0 : Nat) (hp : p + n0 ≤ s.size) (n : Nat) : ∀ (q : Nat) (a : Int), q + n = p + n0 → 0 ≤ a → (a + 1) * 2 ^ n ≤ 2199023255552 →
  Ev (fun k => spec_l02Read.l0 k s (p : Int) (n0 : Int) a (q : Int)) (bv s n q a, ((p + n0 : Nat) : Int), true) := by
 have hsz := hr.1
 have w0 : wrap64 ((p : Int) + (n0 : Int)) = ((p + n0 : Nat) : Int) := by rw [wrap_id (by omega) (by omega)]; omega
 induction n with
 | zero =>
  intro q a e h0 h1
  refine Ev.step (f := fun _ => some (a, ((p + n0 : Nat) : Int), true)) (fun k => ?_) (Ev.now _)
  simp only [spec_l02Read.l0]
  rw [w0, if_neg (by clear w0; omega)]
 | succ n ih =>
  intro q a e h0 h1
  have hb := hr.2 q (by clear w0; omega)
  have hs := pow_small h0 h1
  have e1 : wrap64 (wrap64 (wrap64 (2 * a) + wrap64 (bt s (q : Int))) - 48) = 2 * a + (bt s (q : Int) - 48) := by
   clear w0
   generalize bt s (q : Int) = b at hb ⊢
   rw [wrap_id (x := 2 * a) (by omega) (by omega), wrap_id (x := b) (by omega) (by omega), wrap_id (x := 2 * a + b) (by omega) (by omega), wrap_id (by omega) (by omega)]
   omega
  have e2 : wrap64 ((q : Int) + 1) = ((q + 1 : Nat) : Int) := by clear w0 e1; rw [wrap_id (by omega) (by omega)]; omega
  have h' := ih (q + 1) (2 * a + (bt s (q : Int) - 48)) (by clear w0 e1 e2; omega) (by clear w0 e1 e2; omega) (pow_step h1 (by clear w0 e1 e2; omega))
  refine Ev.step (fun k => ?_) h'
  simp only [spec_l02Read.l0]
  rw [w0, if_pos (by clear w0 e1 e2; omega), if_pos (by clear w0 e1 e2; omega), if_pos (by clear w0 e1 e2; omega), e1, e2]
theorem sread_ev (s : ByteArray) (hr : RowR s) (p n : Nat) (hp : p ≤ s.size) (hn : n ≤ 40) : Ev (fun k => spec_l02Read.f k s (p : Int) (n : Int)) (if p + n ≤ s.size then (bv s n p 0, ((p + n : Nat) : Int), true) else (0, 0, false)) := by
 have hsz := hr.1
 unfold spec_l02Read.f
 have w0 : wrap64 ((s.size : Int) - (p : Int)) = (s.size : Int) - (p : Int) := wrap_id (by omega) (by omega)
 rw [w0]
 clear w0
 by_cases c : p + n ≤ s.size
 ·rw [if_pos c]
  have hpow : ((0 : Int) + 1) * 2 ^ n ≤ 2199023255552 := by
   have : (2 : Int) ^ n ≤ 2 ^ 40 := by
    have := Nat.pow_le_pow_right (show 0 < 2 by omega) hn
    exact_mod_cast this
   omega
  refine Ev.congr (fun k => ?_) (sread_loop s hr p n c n p 0 rfl (by omega) hpow)
  rw [if_neg (by omega)]
 ·rw [if_neg c]
  exact Ev.congr (f := fun _ => some (0, 0, false)) (fun k => by rw [if_pos (by omega)]) (Ev.now _)
theorem or_bit (a b : Nat) (ha : a < 1152921504606846976) (hb : b < 2) : Go.bits .or .i64 ((2 * a : Nat) : Int) (b : Int) = ((2 * a + b : Nat) : Int) := by
 have e : Go.bits .or .i64 ((2 * a : Nat) : Int) (b : Int) = IntKind.i64.wrap (((BitVec.ofInt 64 ((2 * a : Nat) : Int) ||| BitVec.ofInt 64 (b : Int)).toNat : Nat) : Int) := rfl
 have o : 2 * a ||| b = 2 * a + b := by
  have h := Nat.shiftLeft_add_eq_or_of_lt (i := 1) (b := b) (by omega) a
  rw [Nat.shiftLeft_eq] at h
  rw [show 2 * a = a * 2 ^ 1 by omega]
  exact h.symm
 rw [e, BitVec.ofInt_natCast, BitVec.ofInt_natCast, BitVec.toNat_or, BitVec.toNat_ofNat, BitVec.toNat_ofNat, Nat.mod_eq_of_lt (by omega), Nat.mod_eq_of_lt (by omega), o, IntKind.wrap_i64]
 omega
theorem fix_loop (s : ByteArray) (hr : RowR s) (p n0 : Nat) (bad : Bool) (hp : p + n0 ≤ s.size) (n : Nat) : ∀ (q : Nat) (a : Int), q + n = n0 → 0 ≤ a → (a + 1) * 2 ^ n ≤ 2199023255552 →
  Ev (fun k => impl_scan_fix.l0 k (n0 : Int) a (q : Int) s (p : Int) bad) (bv s n (p + q) a, s, ((p + n0 : Nat) : Int), bad) := by
 have hsz := hr.1
 have w0 : wrap64 ((p : Int) + (n0 : Int)) = ((p + n0 : Nat) : Int) := by rw [wrap_id (by omega) (by omega)]; omega
 induction n with
 | zero =>
  intro q a e h0 h1
  refine Ev.step (f := fun _ => some (a, s, ((p + n0 : Nat) : Int), bad)) (fun k => ?_) (Ev.now _)
  simp only [impl_scan_fix.l0]
  rw [w0, if_neg (by clear w0; omega)]
 | succ n ih =>
  intro q a e h0 h1
  have hb := hr.2 (p + q) (by clear w0; omega)
  have hs := pow_small h0 h1
  have e1 : Go.bits .or .i64 (wrap64 (a * 2)) ((bt s ((p + q : Nat) : Int) - 48) % 256) = 2 * a + (bt s ((p + q : Nat) : Int) - 48) := by
   clear w0
   generalize bt s ((p + q : Nat) : Int) = b at hb ⊢
   obtain ⟨m, rfl⟩ := Int.eq_ofNat_of_zero_le h0
   rw [wrap_id (x := (m : Int) * 2) (by omega) (by omega), show (m : Int) * 2 = ((2 * m : Nat) : Int) by omega]
   rcases hb with rfl | rfl
   ·rw [show ((48 : Int) - 48) % 256 = ((0 : Nat) : Int) by decide, or_bit m 0 (by omega) (by omega)]; omega
   ·rw [show ((49 : Int) - 48) % 256 = ((1 : Nat) : Int) by decide, or_bit m 1 (by omega) (by omega)]; omega
  have e2 : wrap64 ((q : Int) + 1) = ((q + 1 : Nat) : Int) := by clear w0 e1; rw [wrap_id (by omega) (by omega)]; omega
  have e3 : wrap64 ((p : Int) + (q : Int)) = ((p + q : Nat) : Int) := by clear w0 e1 e2; rw [wrap_id (by omega) (by omega)]; omega
  have h' := ih (q + 1) (2 * a + (bt s ((p + q : Nat) : Int) - 48)) (by clear w0 e1 e2 e3; omega) (by clear w0 e1 e2 e3; omega) (pow_step h1 (by clear w0 e1 e2 e3; omega))
  refine Ev.step (fun k => ?_) h'
  simp only [impl_scan_fix.l0]
  rw [if_pos (by clear w0 e1 e2 e3; omega), e3, if_pos (by clear w0 e1 e2 e3; omega), if_pos (by clear w0 e1 e2 e3; omega), e1, e2]
/-- What the program's fix answers: the number, and the state behind it. -/
def fixR (s : ByteArray) (p n : Nat) (bad : Bool) : Int × ByteArray × Int × Bool := if bad = false ∧ p + n ≤ s.size then (bv s n p 0, s, ((p + n : Nat) : Int), false) else (0, s, (p : Int), true)
theorem fix_ev (s : ByteArray) (hr : RowR s) (p n : Nat) (bad : Bool) (hp : p ≤ s.size) (hn : n ≤ 41) (hb : bad = false → n ≤ 41) : Ev (fun k => impl_scan_fix.f k s (p : Int) bad (n : Int)) (fixR s p n bad) := by
 have hsz := hr.1
 have hbad : ∀ b : Bool, Ev (fun k => impl_scan_fix.j0 k (n : Int) true s (p : Int) b) (0, s, (p : Int), true) := fun b => Ev.step (f := fun _ => some (0, s, (p : Int), true)) (fun k => by simp only [impl_scan_fix.j0]; rfl) (Ev.now _)
 unfold impl_scan_fix.f fixR
 cases bad with
 | true =>
  rw [if_neg (by simp)]
  exact Ev.congr (fun k => by rw [if_pos rfl]) (hbad true)
 | false =>
  have w0 : wrap64 ((s.size : Int) - (p : Int)) = (s.size : Int) - (p : Int) := wrap_id (by omega) (by omega)
  rw [w0]
  clear w0
  by_cases c : p + n ≤ s.size
  ·rw [if_pos ⟨rfl, c⟩]
   have hpow : ((0 : Int) + 1) * 2 ^ n ≤ 2199023255552 := by
    have : (2 : Int) ^ n ≤ 2 ^ 41 := by
     have := Nat.pow_le_pow_right (show 0 < 2 by omega) hn
     exact_mod_cast this
    omega
   have h := fix_loop s hr p n false c n 0 0 (by omega) (by omega) hpow
   have hd : decide ((s.size : Int) - (p : Int) < (n : Int)) = false := decide_eq_false (by omega)
   rw [hd]
   refine Ev.congr (f := fun k => impl_scan_fix.j0 k (n : Int) false s (p : Int) false) (fun k => by rw [if_neg (by simp)]) (Ev.step (fun k => ?_) h)
   simp only [impl_scan_fix.j0, Bool.false_eq_true, if_false]
   rfl
  ·rw [if_neg (fun h => c h.2)]
   have hd : decide ((s.size : Int) - (p : Int) < (n : Int)) = true := decide_eq_true (by omega)
   rw [hd]
   exact Ev.congr (fun k => by rw [if_neg (by simp)]) (hbad false)
/-- How many noughts stand from p on, of n bytes. -/
def zc (s : ByteArray) : Nat → Nat → Nat
 | 0, _ => 0
 | n + 1, p => if bt s (p : Int) = 48 then zc s n (p + 1) + 1 else 0
theorem zc_le (s : ByteArray) (n : Nat) : ∀ p, zc s n p ≤ n := by
 induction n with
 | zero => intro p; rw [zc]; omega
 | succ n ih => intro p; rw [zc]; have := ih (p + 1); split <;> omega
theorem zc_lt (s : ByteArray) (n : Nat) : ∀ p z, z < zc s n p → bt s ((p + z : Nat) : Int) = 48 := by
 induction n with
 | zero => intro p z h; rw [zc] at h; omega
 | succ n ih =>
  intro p z h
  rw [zc] at h
  by_cases c : bt s (p : Int) = 48
  ·rw [if_pos c] at h
   cases z with
   | zero => rw [Nat.add_zero]; exact c
   | succ z => rw [show p + (z + 1) = (p + 1) + z by omega]; exact ih (p + 1) z (by omega)
  ·rw [if_neg c] at h; omega
theorem zc_end (s : ByteArray) (n : Nat) : ∀ p, zc s n p < n → bt s ((p + zc s n p : Nat) : Int) ≠ 48 := by
 induction n with
 | zero => intro p h; omega
 | succ n ih =>
  intro p h
  by_cases c : bt s (p : Int) = 48
  ·have e : zc s (n + 1) p = zc s n (p + 1) + 1 := by rw [zc, if_pos c]
   rw [e] at h ⊢
   rw [show p + (zc s n (p + 1) + 1) = (p + 1) + zc s n (p + 1) by omega]
   exact ih (p + 1) (by omega)
  ·have e : zc s (n + 1) p = 0 := by rw [zc, if_neg c]
   rw [e, Nat.add_zero]; exact c
def nz (s : ByteArray) (p : Nat) : Nat := zc s (s.size - p) p
def ueN (s : ByteArray) (p : Nat) : Int := bv s (2 * nz s p + 1) p 0 - 1
def ueE (s : ByteArray) (p : Nat) : Nat := p + (2 * nz s p + 1)
/-- A number can be read from p on. -/
def UeOk (s : ByteArray) (p : Nat) : Prop := nz s p ≤ 20 ∧ ueE s p ≤ s.size ∧ ueN s p ≤ 1000000
instance (s : ByteArray) (p : Nat) : Decidable (UeOk s p) := by unfold UeOk; infer_instance
theorem bv_in (s : ByteArray) (hr : RowR s) (n : Nat) : ∀ (q : Nat) (a : Int), q + n ≤ s.size → 0 ≤ a → a * 2 ^ n ≤ bv s n q a ∧ bv s n q a < (a + 1) * 2 ^ n := by
 induction n with
 | zero => intro q a _ _; rw [bv, Int.pow_zero, Int.mul_one, Int.mul_one]; omega
 | succ n ih =>
  intro q a hq h0
  have hb := hr.2 q (by omega)
  rw [bv]
  generalize bt s (q : Int) = b at hb ⊢
  have h := ih (q + 1) (2 * a + (b - 48)) (by omega) (by omega)
  have hp : (0 : Int) < 2 ^ n := Int.pow_pos (by omega)
  have e : ∀ c : Int, c * 2 ^ (n + 1) = (2 * c) * 2 ^ n := by intro c; rw [Int.pow_succ, Int.mul_comm (2 ^ n) 2, ← Int.mul_assoc, Int.mul_comm c 2]
  rw [e, e]
  have h1 : (2 * a) * 2 ^ n ≤ (2 * a + (b - 48)) * 2 ^ n := Int.mul_le_mul_of_nonneg_right (by omega) (Int.le_of_lt hp)
  have h2 : (2 * a + (b - 48) + 1) * 2 ^ n ≤ (2 * (a + 1)) * 2 ^ n := Int.mul_le_mul_of_nonneg_right (by omega) (Int.le_of_lt hp)
  omega
theorem fixbad_ev (s : ByteArray) (q n : Int) : Ev (fun k => impl_scan_fix.f k s q true n) (0, s, q, true) := by
 unfold impl_scan_fix.f
 refine Ev.congr (f := fun k => impl_scan_fix.j0 k n true s q true) (fun k => by rw [if_pos rfl]) (Ev.step (f := fun _ => some (0, s, q, true)) (fun k => by simp only [impl_scan_fix.j0]; rfl) (Ev.now _))
theorem uebad_ev (s : ByteArray) (q : Int) : Ev (fun k => impl_scan_ue.f k s q true) (0, s, q, true) := by
 unfold impl_scan_ue.f
 refine Ev.step (f := fun k => impl_scan_ue.j1 k 0 s q true) (fun k => by simp only [impl_scan_ue.l0]; rfl) ?_
 refine Ev.step (f := fun k => (impl_scan_fix.f k s q true (wrap64 ((wrap64 (2 * 0)) + 1))).bind fun bt179 => (if bt179.2.2.2 = true then (some (0, bt179.2.1, bt179.2.2.1, true)) else (if (wrap64 (bt179.1 - 1)) > 1000000 then (some (0, bt179.2.1, bt179.2.2.1, true)) else (some (wrap64 (bt179.1 - 1), bt179.2.1, bt179.2.2.1, bt179.2.2.2))))) (fun k => by simp only [impl_scan_ue.j1]; rw [if_neg (by omega)]) (Ev.bind (fixbad_ev s q _) ?_)
 exact Ev.now _
theorem ue_loop (s : ByteArray) (hr : RowR s) (p : Nat) (hp : p ≤ s.size) (R : Int × ByteArray × Int × Bool) (h : Ev (fun k => impl_scan_ue.j1 k (nz s p : Int) s (p : Int) false) R) :
  ∀ z, z ≤ nz s p → Ev (fun k => impl_scan_ue.l0 k (z : Int) s (p : Int) false) R := by
 have hsz := hr.1
 have hle := zc_le s (s.size - p) p
 have hn : nz s p = zc s (s.size - p) p := rfl
 refine down (nz s p) ?_ ?_
 ·have e3 : wrap64 ((p : Int) + (nz s p : Int)) = ((p + nz s p : Nat) : Int) := by rw [wrap_id (by omega) (by omega)]; omega
  refine Ev.step (fun k => ?_) h
  simp only [impl_scan_ue.l0, Bool.false_eq_true, if_false]
  rw [e3]
  clear e3
  by_cases c : p + nz s p < s.size
  ·have hz : bt s ((p + nz s p : Nat) : Int) ≠ 48 := zc_end s (s.size - p) p (by omega)
   rw [if_pos (by omega), if_pos (by omega), if_neg hz]
  ·rw [if_neg (by omega)]
 ·intro z hz h'
  have hb := zc_lt s (s.size - p) p z (by omega)
  have e3 : wrap64 ((p : Int) + (z : Int)) = ((p + z : Nat) : Int) := by rw [wrap_id (by omega) (by omega)]; omega
  have e4 : wrap64 ((z : Int) + 1) = ((z + 1 : Nat) : Int) := by clear e3; rw [wrap_id (by omega) (by omega)]; omega
  refine Ev.step (fun k => ?_) h'
  simp only [impl_scan_ue.l0, Bool.false_eq_true, if_false]
  rw [e3, e4]
  clear e3 e4
  rw [if_pos (by omega), if_pos (by omega), if_pos hb]
theorem ue_ok (s : ByteArray) (hr : RowR s) (p : Nat) (hp : p ≤ s.size) (h : UeOk s p) : Ev (fun k => impl_scan_ue.f k s (p : Int) false) (ueN s p, s, (ueE s p : Int), false) := by
 obtain ⟨h1, h2, h3⟩ := h
 unfold impl_scan_ue.f
 refine ue_loop s hr p hp _ ?_ 0 (by omega)
 have hf := fix_ev s hr p (2 * nz s p + 1) false hp (by omega) (by omega)
 unfold fixR at hf
 rw [if_pos ⟨rfl, h2⟩] at hf
 have hv := bv_in s hr (2 * nz s p + 1) p 0 h2 (by omega)
 have hw : wrap64 (bv s (2 * nz s p + 1) p 0 - 1) = ueN s p := by
  unfold ueN at h3 ⊢
  exact wrap_id (by omega) (by omega)
 have e1 : wrap64 (wrap64 (2 * (nz s p : Int)) + 1) = ((2 * nz s p + 1 : Nat) : Int) := by clear hw; rw [wrap_id (x := 2 * (nz s p : Int)) (by omega) (by omega), wrap_id (by omega) (by omega)]; omega
 refine Ev.step (fun k => by simp only [impl_scan_ue.j1]; rw [if_neg (by clear hw e1; omega), e1]) (Ev.bind hf ?_)
 have g : ¬ (ueN s p > 1000000) := by clear hw e1; omega
 simp only [Bool.false_eq_true, if_false, hw, g]
 exact Ev.now _
theorem ue_no (s : ByteArray) (hr : RowR s) (p : Nat) (hp : p ≤ s.size) (h : ¬ UeOk s p) : ∃ q : Int, Ev (fun k => impl_scan_ue.f k s (p : Int) false) (0, s, q, true) := by
 have hle := zc_le s (s.size - p) p
 have hn : nz s p = zc s (s.size - p) p := rfl
 have hsz := hr.1
 by_cases h1 : nz s p ≤ 20
 ·have hf := fix_ev s hr p (2 * nz s p + 1) false hp (by omega) (by omega)
  unfold fixR at hf
  have e1 : wrap64 (wrap64 (2 * (nz s p : Int)) + 1) = ((2 * nz s p + 1 : Nat) : Int) := by rw [wrap_id (x := 2 * (nz s p : Int)) (by omega) (by omega), wrap_id (by omega) (by omega)]; omega
  by_cases h2 : p + (2 * nz s p + 1) ≤ s.size
  ·rw [if_pos ⟨rfl, h2⟩] at hf
   have hv := bv_in s hr (2 * nz s p + 1) p 0 h2 (by omega)
   have hb : (2 : Int) ^ (2 * nz s p + 1) ≤ 2 ^ 41 := by
    have := Nat.pow_le_pow_right (show 0 < 2 by omega) (show 2 * nz s p + 1 ≤ 41 by omega)
    exact_mod_cast this
   have hw : wrap64 (bv s (2 * nz s p + 1) p 0 - 1) = ueN s p := by
    unfold ueN
    clear e1
    exact wrap_id (by omega) (by omega)
   have h3 : ueN s p > 1000000 := by
    clear hw e1
    apply Int.not_le.1
    intro h3
    exact h ⟨h1, h2, h3⟩
   refine ⟨((p + (2 * nz s p + 1) : Nat) : Int), ?_⟩
   unfold impl_scan_ue.f
   refine ue_loop s hr p hp _ ?_ 0 (by clear hw e1; omega)
   refine Ev.step (fun k => by simp only [impl_scan_ue.j1]; rw [if_neg (by clear hw e1; omega), e1]) (Ev.bind hf ?_)
   simp only [Bool.false_eq_true, if_false, hw, h3, if_true]
   exact Ev.now _
  ·rw [if_neg (fun hq => h2 hq.2)] at hf
   refine ⟨(p : Int), ?_⟩
   unfold impl_scan_ue.f
   refine ue_loop s hr p hp _ ?_ 0 (by clear e1; omega)
   refine Ev.step (fun k => by simp only [impl_scan_ue.j1]; rw [if_neg (by clear e1; omega), e1]) (Ev.bind hf ?_)
   simp only [if_true]
   exact Ev.now _
 ·refine ⟨(p : Int), ?_⟩
  unfold impl_scan_ue.f
  refine ue_loop s hr p hp _ ?_ 0 (by omega)
  refine Ev.step (fun k => by simp only [impl_scan_ue.j1]; rw [if_pos (by omega)]) (Ev.bind (fixbad_ev s (p : Int) _) ?_)
  simp only [if_true]
  exact Ev.now _
theorem bv_zeros (s : ByteArray) (n : Nat) : ∀ (p m : Nat), (∀ j, j < n → bt s ((p + j : Nat) : Int) = 48) → bv s (n + m) p 0 = bv s m (p + n) 0 := by
 induction n with
 | zero => intro p m _; rw [Nat.zero_add, Nat.add_zero]
 | succ n ih =>
  intro p m h
  have h0 := h 0 (by omega)
  rw [Nat.add_zero] at h0
  rw [show n + 1 + m = (n + m) + 1 by omega, bv, h0, show (2 * (0 : Int) + (48 - 48)) = 0 by omega, show p + (n + 1) = (p + 1) + n by omega]
  exact ih (p + 1) m (fun j hj => by rw [show p + 1 + j = p + (j + 1) by omega]; exact h (j + 1) (by omega))
theorem shl_one : ∀ n : Fin 22, 0 ≤ IntKind.u64.wrap (n.val : Int) ∧ shl .i64 1 (IntKind.u64.wrap (n.val : Int)) = 2 ^ n.val := by decide +kernel
/-- What the reference does behind n noughts from p on. -/
theorem sue_tail (s : ByteArray) (hr : RowR s) (p n : Nat) (hp : p + n ≤ s.size) (hn : n ≤ 21) :
  Ev (fun k => (spec_l02Read.f k s ((p + n : Nat) : Int) ((n + 1 : Nat) : Int)).bind fun bt112 => (if bt112.2.2 = true then (if 0 ≤ (IntKind.u64.wrap (n : Int)) then (if bt112.1 < (shl .i64 1 (IntKind.u64.wrap (n : Int))) then (some ((0 : Int), (0 : Int), false)) else (if (wrap64 (bt112.1 - 1)) > 1000000 then (some (0, 0, false)) else (some (wrap64 (bt112.1 - 1), bt112.2.1, true)))) else (none)) else (some (0, 0, false))))
   (if p + n + (n + 1) ≤ s.size ∧ 2 ^ n ≤ bv s (n + 1) (p + n) 0 ∧ bv s (n + 1) (p + n) 0 - 1 ≤ 1000000 then (bv s (n + 1) (p + n) 0 - 1, ((p + n + (n + 1) : Nat) : Int), true) else (0, 0, false)) := by
 have hrd := sread_ev s hr (p + n) (n + 1) hp (by omega)
 have hs := shl_one ⟨n, by omega⟩
 have hs1 : 0 ≤ IntKind.u64.wrap (n : Int) := hs.1
 have hs2 : shl .i64 1 (IntKind.u64.wrap (n : Int)) = 2 ^ n := hs.2
 clear hs
 refine Ev.bind hrd ?_
 by_cases c : p + n + (n + 1) ≤ s.size
 ·rw [if_pos c]
  have hv := bv_in s hr (n + 1) (p + n) 0 c (by omega)
  have hb : (2 : Int) ^ (n + 1) ≤ 2 ^ 22 := by
   have := Nat.pow_le_pow_right (show 0 < 2 by omega) (show n + 1 ≤ 22 by omega)
   exact_mod_cast this
  generalize bv s (n + 1) (p + n) 0 = v at hv ⊢
  have hw : wrap64 (v - 1) = v - 1 := by clear hs1 hs2; exact wrap_id (by omega) (by omega)
  simp only [if_true, hs1, hs2, hw]
  generalize (2 : Int) ^ n = m
  clear hs1 hs2 hw
  by_cases c1 : v < m
  ·rw [if_pos c1, if_neg (by omega)]; exact Ev.now _
  ·rw [if_neg c1]
   by_cases c2 : v - 1 > 1000000
   ·rw [if_pos c2, if_neg (by omega)]; exact Ev.now _
   ·rw [if_neg c2, if_pos ⟨c, by omega, by omega⟩]; exact Ev.now _
 ·have c' : ¬ (p + n + (n + 1) ≤ s.size ∧ 2 ^ n ≤ bv s (n + 1) (p + n) 0 ∧ bv s (n + 1) (p + n) 0 - 1 ≤ 1000000) := fun h => c h.1
  simp only [c, c', Bool.false_eq_true, if_false]
  exact Ev.now _
theorem sue_walk (s : ByteArray) (hr : RowR s) (p : Nat) (hp : p ≤ s.size) (N : Nat) (hN : N = min (nz s p) 21) (R : Int × Int × Bool)
  (h : Ev (fun k => (spec_l02Read.f k s ((p + N : Nat) : Int) ((N + 1 : Nat) : Int)).bind fun bt112 => (if bt112.2.2 = true then (if 0 ≤ (IntKind.u64.wrap (N : Int)) then (if bt112.1 < (shl .i64 1 (IntKind.u64.wrap (N : Int))) then (some ((0 : Int), (0 : Int), false)) else (if (wrap64 (bt112.1 - 1)) > 1000000 then (some (0, 0, false)) else (some (wrap64 (bt112.1 - 1), bt112.2.1, true)))) else (none)) else (some (0, 0, false)))) R) :
  ∀ z, z ≤ N → Ev (fun k => spec_l03ReadUe.l0 k s (p : Int) (z : Int)) R := by
 have hsz := hr.1
 have hle := zc_le s (s.size - p) p
 have hn : nz s p = zc s (s.size - p) p := rfl
 refine down N ?_ ?_
 ·have e3 : wrap64 ((p : Int) + (N : Int)) = ((p + N : Nat) : Int) := by rw [wrap_id (by omega) (by omega)]; omega
  have e4 : wrap64 ((N : Int) + 1) = ((N + 1 : Nat) : Int) := by clear e3; rw [wrap_id (by omega) (by omega)]; omega
  refine Ev.step (fun k => ?_) h
  simp only [spec_l03ReadUe.l0]
  rw [e3, e4]
  clear e3 e4 h
  by_cases c : p + N < s.size
  ·rw [if_pos (by omega), if_pos (by omega)]
   by_cases c2 : bt s ((p + N : Nat) : Int) = 48
   ·rw [if_pos c2]
    have : ¬ ((N : Int) < 21) := by
     intro h21
     have e : N = nz s p := by omega
     rw [e] at c2 c
     exact zc_end s (s.size - p) p (by omega) c2
    rw [if_neg this]
   ·rw [if_neg c2]
  ·rw [if_neg (by omega)]
 ·intro z hz h'
  have hb := zc_lt s (s.size - p) p z (by omega)
  have e3 : wrap64 ((p : Int) + (z : Int)) = ((p + z : Nat) : Int) := by rw [wrap_id (by omega) (by omega)]; omega
  have e4 : wrap64 ((z : Int) + 1) = ((z + 1 : Nat) : Int) := by clear e3; rw [wrap_id (by omega) (by omega)]; omega
  refine Ev.step (fun k => ?_) h'
  simp only [spec_l03ReadUe.l0]
  rw [e3, e4]
  clear e3 e4 h
  rw [if_pos (by omega), if_pos (by omega), if_pos hb, if_pos (by omega)]
theorem sue_read (s : ByteArray) (hr : RowR s) (p : Nat) (hp : p ≤ s.size) : Ev (fun k => spec_l03ReadUe.f k s (p : Int)) (if UeOk s p then (ueN s p, (ueE s p : Int), true) else (0, 0, false)) := by
 have hsz := hr.1
 have hle := zc_le s (s.size - p) p
 have hn : nz s p = zc s (s.size - p) p := rfl
 unfold spec_l03ReadUe.f
 by_cases h1 : nz s p ≤ 20
 ·have ht := sue_tail s hr p (nz s p) (by omega) (by omega)
  have hz := bv_zeros s (nz s p) p (nz s p + 1) (fun j hj => zc_lt s (s.size - p) p j (by omega))
  rw [show nz s p + (nz s p + 1) = 2 * nz s p + 1 by omega] at hz
  rw [← hz] at ht
  have hw := sue_walk s hr p hp (nz s p) (by omega) _ ht 0 (by omega)
  by_cases h2 : p + nz s p + (nz s p + 1) ≤ s.size
  ·have hb := hr.2 (p + nz s p) (by omega)
   have h48 : bt s ((p + nz s p : Nat) : Int) ≠ 48 := zc_end s (s.size - p) p (by omega)
   have h49 : bt s ((p + nz s p : Nat) : Int) = 49 := hb.resolve_left h48
   have hge : (2 : Int) ^ nz s p ≤ bv s (2 * nz s p + 1) p 0 := by
    rw [hz, bv, h49]
    have := (bv_in s hr (nz s p) (p + nz s p + 1) (2 * 0 + (49 - 48)) (by omega) (by omega)).1
    omega
   by_cases h3 : bv s (2 * nz s p + 1) p 0 - 1 ≤ 1000000
   ·have hu : UeOk s p := ⟨h1, by unfold ueE; omega, h3⟩
    rw [if_pos hu]
    rw [if_pos ⟨h2, hge, h3⟩] at hw
    rw [show p + nz s p + (nz s p + 1) = ueE s p by unfold ueE; omega] at hw
    exact hw
   ·have hu : ¬ UeOk s p := fun q => h3 q.2.2
    rw [if_neg hu]
    rw [if_neg (fun q => h3 q.2.2)] at hw
    exact hw
  ·have hu : ¬ UeOk s p := fun q => h2 (by have := q.2.1; unfold ueE at this; omega)
   rw [if_neg hu]
   rw [if_neg (fun q => h2 q.1)] at hw
   exact hw
 ·have hu : ¬ UeOk s p := fun q => h1 q.1
  rw [if_neg hu]
  have ht := sue_tail s hr p 21 (by omega) (by omega)
  have hw := sue_walk s hr p hp 21 (by omega) _ ht 0 (by omega)
  rw [if_neg (fun q => by have h1 := q.2.1; have h2 := q.2.2; rw [show (2 : Int) ^ 21 = 2097152 by decide] at h1; omega)] at hw
  exact hw
theorem ueN_nonneg (s : ByteArray) (hr : RowR s) (p : Nat) (hp : p ≤ s.size) (h : UeOk s p) : 0 ≤ ueN s p := by
 have hle := zc_le s (s.size - p) p
 have hn : nz s p = zc s (s.size - p) p := rfl
 have h2 := h.2.1
 unfold ueE at h2
 have hz := bv_zeros s (nz s p) p (nz s p + 1) (fun j hj => zc_lt s (s.size - p) p j (by omega))
 rw [show nz s p + (nz s p + 1) = 2 * nz s p + 1 by omega] at hz
 have hb := hr.2 (p + nz s p) (by omega)
 have h48 : bt s ((p + nz s p : Nat) : Int) ≠ 48 := zc_end s (s.size - p) p (by omega)
 have h49 : bt s ((p + nz s p : Nat) : Int) = 49 := hb.resolve_left h48
 have hge := (bv_in s hr (nz s p) (p + nz s p + 1) (2 * 0 + (49 - 48)) (by omega) (by omega)).1
 have hp : (0 : Int) < 2 ^ nz s p := Int.pow_pos (by omega)
 unfold ueN
 rw [hz, bv, h49]
 omega
def openN (n : Int) : Int := if n % 2 = 1 then (n + 1) / 2 else -(n / 2)
theorem open_eq (n : Int) (h0 : 0 ≤ n) (h1 : n ≤ 1000000) : impl_OpenSe.f n = some (openN n, true) := by
 unfold impl_OpenSe.f openN
 rw [within_eq, Option.bind_some, if_pos (decide_eq_true ⟨h0, h1⟩), Int.tmod_eq_emod_of_nonneg h0]
 by_cases c : n % 2 = 1
 ·rw [if_pos c, if_pos c, wrap_id (x := n + 1) (by omega) (by omega), Int.tdiv_eq_ediv_of_nonneg (by omega), wrap_id (by omega) (by omega)]
 ·rw [if_neg c, if_neg c, wrap_id (x := -n) (by omega) (by omega), Int.neg_tdiv, Int.tdiv_eq_ediv_of_nonneg h0, wrap_id (by omega) (by omega)]
theorem sopen_eq (n : Int) (h0 : 0 ≤ n) (h1 : n ≤ 1000000) : spec_OpenSe.f n = some (openN n, true) := by
 unfold spec_OpenSe.f openN
 rw [in_eq, Option.bind_some, if_pos (decide_eq_true ⟨h0, h1⟩), Int.tmod_eq_emod_of_nonneg h0]
 by_cases c : n % 2 = 1
 ·rw [if_pos c, if_pos c, wrap_id (x := n + 1) (by omega) (by omega), Int.tdiv_eq_ediv_of_nonneg (by omega), wrap_id (by omega) (by omega)]
 ·rw [if_neg c, if_neg c, Int.tdiv_eq_ediv_of_nonneg h0, wrap_id (x := n / 2) (by omega) (by omega), wrap_id (by omega) (by omega)]
theorem se_ok (s : ByteArray) (hr : RowR s) (p : Nat) (hp : p ≤ s.size) (h : UeOk s p) : Ev (fun k => impl_scan_se.f k s (p : Int) false) (openN (ueN s p), s, (ueE s p : Int), false) := by
 unfold impl_scan_se.f
 refine Ev.bind (ue_ok s hr p hp h) ?_
 simp only [open_eq (ueN s p) (ueN_nonneg s hr p hp h) h.2.2, Option.bind_some, Bool.false_eq_true, if_false, Bool.not_true]
 exact Ev.now _
theorem se_end (s : ByteArray) (p q : Int) (b : Bool) (h : Ev (fun k => impl_scan_ue.f k s p b) (0, s, q, true)) : Ev (fun k => impl_scan_se.f k s p b) (0, s, q, true) := by
 unfold impl_scan_se.f
 refine Ev.bind h ?_
 simp only [open_eq 0 (by omega) (by omega), Option.bind_some, if_true]
 exact Ev.now _
theorem sse_read (s : ByteArray) (hr : RowR s) (p : Nat) (hp : p ≤ s.size) : Ev (fun k => spec_l03ReadSe.f k s (p : Int)) (if UeOk s p then (openN (ueN s p), (ueE s p : Int), true) else (0, 0, false)) := by
 unfold spec_l03ReadSe.f
 refine Ev.bind (sue_read s hr p hp) ?_
 by_cases h : UeOk s p
 ·simp only [h, if_true, sopen_eq (ueN s p) (ueN_nonneg s hr p hp h) h.2.2, Option.bind_some]
  exact Ev.now _
 ·simp only [h, if_false, Bool.false_eq_true]
  exact Ev.now _
/-- A round of the runs goes on: the gap at p, at place a, and the level behind it. -/
def RunOk (s : ByteArray) (n a p : Nat) : Prop := UeOk s p ∧ (a : Int) + ueN s p < (n : Int) ∧ UeOk s (ueE s p) ∧ openN (ueN s (ueE s p)) ≠ 0 ∧ -5000 ≤ openN (ueN s (ueE s p)) ∧ openN (ueN s (ueE s p)) ≤ 5000
instance (s : ByteArray) (n a p : Nat) : Decidable (RunOk s n a p) := by unfold RunOk; infer_instance
def runsR (s : ByteArray) (n : Nat) : Nat → Nat → Nat → List Int → Option (List Int × Nat)
 | 0, _, p, out => some (out, p)
 | c + 1, a, p, out => if RunOk s n a p then runsR s n c (a + (ueN s p).toNat + 1) (ueE s (ueE s p)) (out.set (a + (ueN s p).toNat) (openN (ueN s (ueE s p)))) else none
theorem runsR_many (s : ByteArray) (hr : RowR s) (n c : Nat) : ∀ (a p : Nat) (out : List Int), p ≤ s.size → a ≤ n → n - a < c → runsR s n c a p out = none := by
 induction c with
 | zero => intro a p out _ _ h; omega
 | succ c ih =>
  intro a p out hp ha h
  rw [runsR]
  by_cases ok : RunOk s n a p
  ·rw [if_pos ok]
   have h0 := ueN_nonneg s hr p hp ok.1
   exact ih _ _ _ ok.2.2.1.2.1 (by have := ok.2.1; omega) (by have := ok.2.1; omega)
  ·rw [if_neg ok]
theorem runsR_in (s : ByteArray) (hr : RowR s) (n c : Nat) : ∀ (a p : Nat) (out : List Int) (o : List Int) (q : Nat), p ≤ s.size → out.length = n → runsR s n c a p out = some (o, q) → o.length = n ∧ q ≤ s.size := by
 induction c with
 | zero =>
  intro a p out o q hp hl h
  rw [runsR] at h
  injection h with h
  injection h with h1 h2
  subst h1 h2
  exact ⟨hl, hp⟩
 | succ c ih =>
  intro a p out o q hp hl h
  rw [runsR] at h
  by_cases ok : RunOk s n a p
  ·rw [if_pos ok] at h
   exact ih _ _ _ _ _ ok.2.2.1.2.1 (by simp; exact hl) h
  ·rw [if_neg ok] at h
   simp at h
theorem iruns_loop (s : ByteArray) (hr : RowR s) (n : Nat) (hn : n ≤ 64) (c : Nat) : c ≤ 2000000 → ∀ (a p : Nat) (out : List Int), out.length = n → a ≤ n → p ≤ s.size →
  (∀ o q, runsR s n c a p out = some (o, q) → Ev (fun k => impl_scan_runs.l0 k (n : Int) out (a : Int) (c : Int) s (p : Int) false) (o, s, (q : Int), false)) ∧
  (runsR s n c a p out = none → ∃ o q, o.length = n ∧ Ev (fun k => impl_scan_runs.l0 k (n : Int) out (a : Int) (c : Int) s (p : Int) false) (o, s, q, true)) := by
 induction c with
 | zero =>
  intro _ a p out hl ha hp
  refine ⟨?_, fun h => by rw [runsR] at h; simp at h⟩
  intro o q h
  rw [runsR] at h
  injection h with h
  injection h with h1 h2
  subst h1 h2
  refine Ev.step (f := fun k => impl_scan_runs.j1 k (n : Int) out (a : Int) ((0 : Nat) : Int) false s (p : Int) false) (fun k => by simp only [impl_scan_runs.l0]; rw [if_neg (by omega)]) ?_
  exact Ev.step (f := fun _ => some (out, s, (p : Int), false)) (fun k => by simp only [impl_scan_runs.j1, Bool.false_eq_true, if_false]) (Ev.now _)
 | succ c ih =>
  intro hc a p out hl ha hp
  have start : ∀ R, Ev (fun k => impl_scan_runs.j1 k (n : Int) out (a : Int) ((c + 1 : Nat) : Int) true s (p : Int) false) R → Ev (fun k => impl_scan_runs.l0 k (n : Int) out (a : Int) ((c + 1 : Nat) : Int) s (p : Int) false) R := by
   intro R h
   exact Ev.step (fun k => by simp only [impl_scan_runs.l0]; rw [if_pos (by omega)]; rfl) h
  rw [runsR]
  by_cases ok1 : UeOk s p
  ·have r0 := ueN_nonneg s hr p hp ok1
   have r1 := ok1.2.2
   have hE := ok1.2.1
   have hue := ue_ok s hr p hp ok1
   have w1 : wrap64 ((a : Int) + ueN s p) = ((a + (ueN s p).toNat : Nat) : Int) := by rw [wrap_id (by omega) (by omega)]; omega
   by_cases ok2 : UeOk s (ueE s p)
   ·have hse := se_ok s hr (ueE s p) hE ok2
    have hE2 := ok2.2.1
    by_cases c3 : ((a + (ueN s p).toNat : Nat) : Int) ≥ (n : Int)
    ·have hno : ¬ RunOk s n a p := fun h => by have := h.2.1; clear w1; omega
     rw [if_neg hno]
     refine ⟨fun o q h => by simp at h, fun _ => ⟨out, (ueE s (ueE s p) : Int), hl, start _ (Ev.step (fun k => by simp only [impl_scan_runs.j1, if_true]; rfl) (Ev.bind hue (Ev.bind hse ?_)))⟩⟩
     simp only [w1, c3, if_true]
     exact Ev.now _
    ·by_cases c4 : openN (ueN s (ueE s p)) = 0
     ·have hno : ¬ RunOk s n a p := fun h => h.2.2.2.1 c4
      rw [if_neg hno]
      refine ⟨fun o q h => by simp at h, fun _ => ⟨out, (ueE s (ueE s p) : Int), hl, start _ (Ev.step (fun k => by simp only [impl_scan_runs.j1, if_true]; rfl) (Ev.bind hue (Ev.bind hse ?_)))⟩⟩
      simp only [w1, c3, c4, if_true, if_false]
      exact Ev.now _
     ·by_cases c5 : -5000 ≤ openN (ueN s (ueE s p)) ∧ openN (ueN s (ueE s p)) ≤ 5000
      ·have hyes : RunOk s n a p := ⟨ok1, by clear w1; omega, ok2, c4, c5.1, c5.2⟩
       rw [if_pos hyes]
       have w2 : wrap64 (((a + (ueN s p).toNat : Nat) : Int) + 1) = ((a + (ueN s p).toNat + 1 : Nat) : Int) := by clear w1; rw [wrap_id (by omega) (by omega)]; omega
       have w3 : wrap64 (((c + 1 : Nat) : Int) - 1) = (c : Int) := by clear w1 w2; rw [wrap_id (by omega) (by omega)]; omega
       have g1 : (0 : Int) ≤ ((a + (ueN s p).toNat : Nat) : Int) := by clear w1 w2 w3; omega
       have g2 : ((a + (ueN s p).toNat : Nat) : Int) < (out.length : Int) := by clear w1 w2 w3; omega
       have g3 : (((a + (ueN s p).toNat : Nat) : Int)).toNat = a + (ueN s p).toNat := Int.toNat_natCast _
       have h' := ih (by omega) (a + (ueN s p).toNat + 1) (ueE s (ueE s p)) (out.set (a + (ueN s p).toNat) (openN (ueN s (ueE s p)))) (by simp; exact hl) (by clear w1 w2 w3; omega) hE2
       have go : ∀ R, Ev (fun k => impl_scan_runs.l0 k (n : Int) (out.set (a + (ueN s p).toNat) (openN (ueN s (ueE s p)))) ((a + (ueN s p).toNat + 1 : Nat) : Int) (c : Int) s (ueE s (ueE s p) : Int) false) R → Ev (fun k => impl_scan_runs.l0 k (n : Int) out (a : Int) ((c + 1 : Nat) : Int) s (p : Int) false) R := by
        intro R h
        refine start _ (Ev.step (fun k => by simp only [impl_scan_runs.j1, if_true]; rfl) (Ev.bind hue (Ev.bind hse ?_)))
        simp only [w1, c3, c4, if_false, within_eq, Option.bind_some, decide_eq_true c5, if_true, g1, g2, w2, w3, g3]
        exact h
       refine ⟨fun o q h => go _ (h'.1 o q h), fun h => ?_⟩
       obtain ⟨o, q, hlo, e⟩ := h'.2 h
       exact ⟨o, q, hlo, go _ e⟩
      ·have hno : ¬ RunOk s n a p := fun h => c5 ⟨h.2.2.2.2.1, h.2.2.2.2.2⟩
       rw [if_neg hno]
       refine ⟨fun o q h => by simp at h, fun _ => ⟨out, (ueE s (ueE s p) : Int), hl, start _ (Ev.step (fun k => by simp only [impl_scan_runs.j1, if_true]; rfl) (Ev.bind hue (Ev.bind hse ?_)))⟩⟩
       simp only [w1, c3, c4, if_false, within_eq, Option.bind_some, decide_eq_false c5, Bool.false_eq_true]
       exact Ev.now _
   ·have hno : ¬ RunOk s n a p := fun h => ok2 h.2.2.1
    rw [if_neg hno]
    obtain ⟨q, hq⟩ := ue_no s hr (ueE s p) hE ok2
    have hse := se_end s (ueE s p : Int) q false hq
    refine ⟨fun o q h => by simp at h, fun _ => ⟨out, q, hl, start _ (Ev.step (fun k => by simp only [impl_scan_runs.j1, if_true]; rfl) (Ev.bind hue (Ev.bind hse ?_)))⟩⟩
    simp only [if_true, ite_self]
    exact Ev.now _
  ·have hno : ¬ RunOk s n a p := fun h => ok1 h.1
   rw [if_neg hno]
   obtain ⟨q, hq⟩ := ue_no s hr p hp ok1
   have hse := se_end s q q true (uebad_ev s q)
   refine ⟨fun o q h => by simp at h, fun _ => ⟨out, q, hl, start _ (Ev.step (fun k => by simp only [impl_scan_runs.j1, if_true]; rfl) (Ev.bind hq (Ev.bind hse ?_)))⟩⟩
   simp only [if_true, ite_self]
   exact Ev.now _
def outR : Option (List Int × Nat) → List Int × Int × Bool
 | some (o, q) => (o, (q : Int), true)
 | none => ([], 0, false)
theorem sruns_rounds (s : ByteArray) (hr : RowR s) (n : Nat) (hn : n ≤ 64) (c0 : Nat) (hc0 : c0 ≤ 2000000) (d : Nat) : ∀ (i a p : Nat) (out : List Int), i + d = c0 → out.length = n → a ≤ n → p ≤ s.size →
  Ev (fun k => spec_l11Read.l0 k s (n : Int) out (c0 : Int) (p : Int) (a : Int) (i : Int)) (outR (runsR s n d a p out)) := by
 induction d with
 | zero =>
  intro i a p out hi hl ha hp
  rw [runsR]
  refine Ev.step (f := fun _ => some (out, (p : Int), true)) (fun k => ?_) (Ev.now _)
  simp only [spec_l11Read.l0]
  rw [if_neg (by omega)]
 | succ d ih =>
  intro i a p out hi hl ha hp
  have hue := sue_read s hr p hp
  have hbad : ∀ r q : Int, Ev (fun k => spec_l11Read.j2 k s (n : Int) out (c0 : Int) (a : Int) (i : Int) r q true) ([], 0, false) := fun r q => Ev.step (f := fun _ => some ([], 0, false)) (fun k => by simp only [spec_l11Read.j2]; rfl) (Ev.now _)
  rw [runsR]
  refine Ev.step (fun k => by simp only [spec_l11Read.l0]; rw [if_pos (by omega)]) (Ev.bind hue ?_)
  by_cases ok1 : UeOk s p
  ·have r0 := ueN_nonneg s hr p hp ok1
   have r1 := ok1.2.2
   have hE := ok1.2.1
   have hse := sse_read s hr (ueE s p) hE
   have w0 : wrap64 (wrap64 ((n : Int) - 1) - (a : Int)) = (n : Int) - 1 - (a : Int) := by rw [wrap_id (x := (n : Int) - 1) (by omega) (by omega), wrap_id (by omega) (by omega)]
   simp only [ok1, if_true, w0]
   clear w0
   by_cases c3 : (a : Int) + ueN s p < (n : Int)
   ·have hd : decide (ueN s p > (n : Int) - 1 - (a : Int)) = false := decide_eq_false (by omega)
    rw [hd]
    refine Ev.step (fun k => by simp only [spec_l11Read.j2, Bool.false_eq_true, if_false]; rfl) (Ev.bind hse ?_)
    by_cases ok2 : UeOk s (ueE s p)
    ·have hE2 := ok2.2.1
     simp only [ok2, if_true]
     by_cases c4 : openN (ueN s (ueE s p)) = 0
     ·have hno : ¬ RunOk s n a p := fun h => h.2.2.2.1 c4
      rw [if_neg hno]
      simp only [c4, if_true]
      exact Ev.now _
     ·by_cases c5 : -5000 ≤ openN (ueN s (ueE s p)) ∧ openN (ueN s (ueE s p)) ≤ 5000
      ·have hyes : RunOk s n a p := ⟨ok1, c3, ok2, c4, c5.1, c5.2⟩
       rw [if_pos hyes]
       have h' := ih (i + 1) (a + (ueN s p).toNat + 1) (ueE s (ueE s p)) (out.set (a + (ueN s p).toNat) (openN (ueN s (ueE s p)))) (by omega) (by simp; exact hl) (by omega) hE2
       have g1 : (0 : Int) ≤ ((a + (ueN s p).toNat : Nat) : Int) := by omega
       have g2 : ((a + (ueN s p).toNat : Nat) : Int) < (out.length : Int) := by omega
       have g3 : (((a + (ueN s p).toNat : Nat) : Int)).toNat = a + (ueN s p).toNat := Int.toNat_natCast _
       have w1 : wrap64 ((a : Int) + ueN s p) = ((a + (ueN s p).toNat : Nat) : Int) := by rw [wrap_id (by omega) (by omega)]; omega
       have w2 : wrap64 (((a + (ueN s p).toNat : Nat) : Int) + 1) = ((a + (ueN s p).toNat + 1 : Nat) : Int) := by clear w1; rw [wrap_id (by omega) (by omega)]; omega
       have w3 : wrap64 ((i : Int) + 1) = ((i + 1 : Nat) : Int) := by clear w1 w2; rw [wrap_id (by omega) (by omega)]; omega
       simp only [c4, if_false, in_eq, Option.bind_some, decide_eq_true c5, if_true, w1, g1, g2, w2, w3, g3]
       exact h'
      ·have hno : ¬ RunOk s n a p := fun h => c5 ⟨h.2.2.2.2.1, h.2.2.2.2.2⟩
       rw [if_neg hno]
       simp only [c4, if_false, in_eq, Option.bind_some, decide_eq_false c5, Bool.false_eq_true]
       exact Ev.now _
    ·have hno : ¬ RunOk s n a p := fun h => ok2 h.2.2.1
     rw [if_neg hno]
     simp only [ok2, if_false, Bool.false_eq_true]
     exact Ev.now _
   ·have hd : decide (ueN s p > (n : Int) - 1 - (a : Int)) = true := decide_eq_true (by omega)
    have hno : ¬ RunOk s n a p := fun h => c3 h.2.1
    rw [hd, if_neg hno]
    exact hbad _ _
  ·have hno : ¬ RunOk s n a p := fun h => ok1 h.1
   rw [if_neg hno]
   simp only [ok1, if_false, Bool.false_eq_true]
   exact hbad _ _
def runsAll (s : ByteArray) (p : Nat) (n : Nat) : List Int × Int × Bool := if UeOk s p then outR (runsR s n (ueN s p).toNat 0 (ueE s p) (List.replicate n 0)) else ([], 0, false)
theorem iruns_all (s : ByteArray) (hr : RowR s) (p n : Nat) (hp : p ≤ s.size) (hn : n ≤ 64) :
  ∃ o q b, o.length = n ∧ Ev (fun k => impl_scan_runs.f k s (p : Int) false (n : Int)) (o, s, q, b) ∧ (if b = true then (([] : List Int), (0 : Int), false) else (o, q, true)) = runsAll s p n := by
 have g0 : (0 : Int) ≤ (n : Int) := by omega
 have g1 : n ≤ 35184372088832 := by omega
 unfold impl_scan_runs.f
 simp only [g0, g1, if_true, Int.toNat_natCast]
 unfold runsAll
 by_cases ok : UeOk s p
 ·have h0 := ueN_nonneg s hr p hp ok
  have h1 := ok.2.2
  have hl := iruns_loop s hr n hn (ueN s p).toNat (by omega) 0 (ueE s p) (List.replicate n 0) (by simp) (by omega) ok.2.1
  have e : (((ueN s p).toNat : Nat) : Int) = ueN s p := Int.toNat_of_nonneg h0
  rw [e] at hl
  rw [if_pos ok]
  cases hv : runsR s n (ueN s p).toNat 0 (ueE s p) (List.replicate n 0) with
  | some v =>
   obtain ⟨o, q⟩ := v
   exact ⟨o, q, false, (runsR_in s hr n _ 0 _ _ o q ok.2.1 (by simp) hv).1, Ev.bind (ue_ok s hr p hp ok) (hl.1 o q hv), rfl⟩
  | none =>
   obtain ⟨o, q, hlo, h⟩ := hl.2 hv
   exact ⟨o, q, true, hlo, Ev.bind (ue_ok s hr p hp ok) h, rfl⟩
 ·obtain ⟨q, hq⟩ := ue_no s hr p hp ok
  rw [if_neg ok]
  refine ⟨List.replicate n 0, q, true, by simp, Ev.bind hq ?_, rfl⟩
  refine Ev.step (f := fun k => impl_scan_runs.j1 k (n : Int) (List.replicate n 0) 0 0 false s q true) (fun k => by simp only [impl_scan_runs.l0]; rw [if_neg (by omega)]) ?_
  exact Ev.step (f := fun _ => some (List.replicate n 0, s, q, true)) (fun k => by simp only [impl_scan_runs.j1, Bool.false_eq_true, if_false]) (Ev.now _)
theorem sruns_all (s : ByteArray) (hr : RowR s) (p n : Nat) (hp : p ≤ s.size) (hn : n ≤ 64) : Ev (fun k => spec_l11Read.f k s (p : Int) (n : Int)) (runsAll s p n) := by
 have g0 : (0 : Int) ≤ (n : Int) := by omega
 have g1 : n ≤ 35184372088832 := by omega
 have hbad : ∀ x y : Int, Ev (fun k => spec_l11Read.j0 k s (n : Int) (List.replicate n 0) x y true) ([], 0, false) := fun x y => Ev.step (f := fun _ => some ([], 0, false)) (fun k => by simp only [spec_l11Read.j0]; rfl) (Ev.now _)
 unfold spec_l11Read.f
 simp only [g0, g1, if_true, Int.toNat_natCast, Option.bind_some]
 refine Ev.bind (sue_read s hr p hp) ?_
 unfold runsAll
 by_cases ok : UeOk s p
 ·have h0 := ueN_nonneg s hr p hp ok
  have h1 := ok.2.2
  simp only [ok, if_true]
  by_cases c : ueN s p > (n : Int)
  ·rw [decide_eq_true c, runsR_many s hr n _ 0 _ _ ok.2.1 (by omega) (by omega)]
   exact hbad _ _
  ·rw [decide_eq_false c]
   have hl := sruns_rounds s hr n hn (ueN s p).toNat (by omega) (ueN s p).toNat 0 0 (ueE s p) (List.replicate n 0) (by omega) (by simp) (by omega) ok.2.1
   have e : (((ueN s p).toNat : Nat) : Int) = ueN s p := Int.toNat_of_nonneg h0
   rw [e] at hl
   refine Ev.step (fun k => ?_) hl
   simp only [spec_l11Read.j0, Bool.false_eq_true, if_false]
   rfl
 ·simp only [ok, if_false, Bool.false_eq_true]
  exact hbad _ _
def openB (s : ByteArray) (a : Int) : Bool := rowB s && decide (0 ≤ a ∧ a ≤ (s.size : Int))
theorem opened_ev (s : ByteArray) (a : Int) : Ev (fun k => impl_opened.f k s a) (s, a, !(openB s a)) := by
 unfold impl_opened.f openB
 refine Ev.bind (row_ev s) ?_
 cases rowB s with
 | true => simp only [if_true, within_eq, Option.bind_some, Bool.true_and]; exact Ev.now _
 | false => simp only [Bool.false_eq_true, if_false, Bool.false_and, Bool.not_false]; exact Ev.now _
theorem openB_good {s : ByteArray} {a : Int} (h : openB s a = true) : RowR s ∧ 0 ≤ a ∧ a ≤ (s.size : Int) := by
 unfold openB at h
 rw [Bool.and_eq_true, decide_eq_true_eq] at h
 exact ⟨rowB_at h.1, h.2⟩
theorem iruns_bad (s : ByteArray) (a : Int) (n : Nat) (hn : n ≤ 64) : Ev (fun k => impl_scan_runs.f k s a true (n : Int)) (List.replicate n 0, s, a, true) := by
 have g0 : (0 : Int) ≤ (n : Int) := by omega
 have g1 : n ≤ 35184372088832 := by omega
 unfold impl_scan_runs.f
 simp only [g0, g1, if_true, Int.toNat_natCast]
 refine Ev.bind (uebad_ev s a) ?_
 refine Ev.step (f := fun k => impl_scan_runs.j1 k (n : Int) (List.replicate n 0) 0 0 false s a true) (fun k => by simp only [impl_scan_runs.l0]; rw [if_neg (by omega)]) ?_
 exact Ev.step (f := fun _ => some (List.replicate n 0, s, a, true)) (fun k => by simp only [impl_scan_runs.j1, Bool.false_eq_true, if_false]) (Ev.now _)
def condB (q : Int) (l e : Bool) : Bool := decide (0 ≤ q ∧ q ≤ 40) && !(l && e)
theorem cond_val (a : Bool) (q : Int) (l e : Bool) : impl_CondOk.f a q l e = some (condB q l e) := by
 unfold impl_CondOk.f condB
 rw [within_eq, Option.bind_some]
 by_cases c : 0 ≤ q ∧ q ≤ 40
 ·simp only [c, and_self, decide_true, if_true, Bool.true_and]
  cases l <;> cases e <;> rfl
 ·simp only [c, decide_false, Bool.false_eq_true, if_false, Bool.false_and]
theorem scond_val (a : Bool) (q : Int) (l e : Bool) : spec_CondOk.f a q l e = some (condB q l e) := by
 unfold spec_CondOk.f condB
 rw [in_eq, Option.bind_some]
 by_cases c : 0 ≤ q ∧ q ≤ 40
 ·simp only [c, and_self, decide_true, if_true, Bool.true_and]
  cases l <;> cases e <;> rfl
 ·simp only [c, decide_false, Bool.false_eq_true, if_false, Bool.false_and]
/-- One row of runs of n numbers, from p on. -/
def runsO (s : ByteArray) (n p : Nat) : Option (List Int × Nat) := if UeOk s p then runsR s n (ueN s p).toNat 0 (ueE s p) (List.replicate n 0) else none
theorem runsAll_eq (s : ByteArray) (n p : Nat) : runsAll s p n = outR (runsO s n p) := by
 unfold runsAll runsO
 by_cases c : UeOk s p
 ·rw [if_pos c, if_pos c]
 ·rw [if_neg c, if_neg c]; rfl
theorem runsO_in {s : ByteArray} (hr : RowR s) {n p : Nat} {o : List Int} {q : Nat} (hp : p ≤ s.size) (h : runsO s n p = some (o, q)) : o.length = n ∧ q ≤ s.size := by
 unfold runsO at h
 by_cases c : UeOk s p
 ·rw [if_pos c] at h
  exact runsR_in s hr n _ 0 _ _ o q c.2.1 (by simp) h
 ·rw [if_neg c] at h; cases h
/-- d rows of sixteen, one behind the other, behind what out has. -/
def fourR (s : ByteArray) : Nat → Nat → List Int → Option (List Int × Nat)
 | 0, p, out => some (out, p)
 | d + 1, p, out => (runsO s 16 p).bind fun v => fourR s d v.2 (out ++ v.1)
theorem fourR_in {s : ByteArray} (hr : RowR s) (d : Nat) : ∀ (p : Nat) (out o : List Int) (q : Nat), p ≤ s.size → fourR s d p out = some (o, q) → o.length = out.length + 16 * d := by
 induction d with
 | zero =>
  intro p out o q hp h
  rw [fourR] at h
  cases h
  omega
 | succ d ih =>
  intro p out o q hp h
  rw [fourR] at h
  cases hv : runsO s 16 p with
  | none => rw [hv] at h; cases h
  | some v =>
   obtain ⟨o1, q1⟩ := v
   rw [hv] at h
   have hi := runsO_in hr hp hv
   have := ih q1 (out ++ o1) o q hi.2 h
   rw [List.length_append] at this
   omega
def levelsR (s : ByteArray) (large ex : Bool) (p : Nat) : Option (List Int × Nat) := if large = true ∨ ex = true then runsO s 64 p else fourR s 4 p []
theorem levelsR_len {s : ByteArray} (hr : RowR s) {large ex : Bool} {p : Nat} {o : List Int} {q : Nat} (hp : p ≤ s.size) (h : levelsR s large ex p = some (o, q)) : o.length = 64 := by
 unfold levelsR at h
 by_cases c : large = true ∨ ex = true
 ·rw [if_pos c] at h; exact (runsO_in hr hp h).1
 ·rw [if_neg c] at h; exact fourR_in hr 4 p [] o q hp h
theorem iruns_good {s : ByteArray} (hr : RowR s) {p n : Nat} (hp : p ≤ s.size) (hn : n ≤ 64) {o : List Int} {q : Nat} (h : runsO s n p = some (o, q)) : Ev (fun k => impl_scan_runs.f k s (p : Int) false (n : Int)) (o, s, (q : Int), false) := by
 obtain ⟨o', q', b, hlo, e, hv⟩ := iruns_all s hr p n hp hn
 rw [runsAll_eq, h] at hv
 cases b with
 | true => simp [outR] at hv
 | false =>
  simp only [Bool.false_eq_true, if_false, outR, Prod.mk.injEq] at hv
  obtain ⟨rfl, rfl, _⟩ := hv
  exact e
theorem iruns_none {s : ByteArray} (hr : RowR s) {p n : Nat} (hp : p ≤ s.size) (hn : n ≤ 64) (h : runsO s n p = none) : ∃ o q, o.length = n ∧ Ev (fun k => impl_scan_runs.f k s (p : Int) false (n : Int)) (o, s, q, true) := by
 obtain ⟨o', q', b, hlo, e, hv⟩ := iruns_all s hr p n hp hn
 rw [runsAll_eq, h] at hv
 cases b with
 | true => exact ⟨o', q', hlo, e⟩
 | false => simp [outR] at hv
theorem ilev_bad (s : ByteArray) (d : Nat) : ∀ (i : Nat) (out : List Int) (a : Int), i + d = 4 → out.length ≤ 16 * i → ∃ o, Ev (fun k => impl_scan_levels.l0 k out (i : Int) s a true) (o, s, a, true) := by
 induction d with
 | zero =>
  intro i out a hi hl
  refine ⟨out, Ev.step (f := fun _ => some (out, s, a, true)) (fun k => ?_) (Ev.now _)⟩
  simp only [impl_scan_levels.l0]
  rw [if_neg (by omega)]
 | succ d ih =>
  intro i out a hi hl
  obtain ⟨o, h⟩ := ih (i + 1) (out ++ List.replicate 16 0) a (by omega) (by rw [List.length_append, List.length_replicate]; omega)
  refine ⟨o, Ev.step (fun k => by simp only [impl_scan_levels.l0]; rw [if_pos (by omega)]) (Ev.bind (show Ev (fun k => impl_scan_runs.f k s a true 16) (List.replicate 16 0, s, a, true) from iruns_bad s a 16 (by omega)) ?_)⟩
  have e2 : wrap64 ((i : Int) + 1) = ((i + 1 : Nat) : Int) := by rw [wrap_id (by omega) (by omega)]; omega
  have g : out.length + (List.replicate 16 (0 : Int)).length < 17592186044416 := by rw [List.length_replicate]; omega
  simp only [e2, g, if_true]
  exact h
theorem ilev_loop (s : ByteArray) (hr : RowR s) (d : Nat) : ∀ (i p : Nat) (out : List Int), i + d = 4 → out.length ≤ 16 * i → p ≤ s.size →
  (∀ o q, fourR s d p out = some (o, q) → Ev (fun k => impl_scan_levels.l0 k out (i : Int) s (p : Int) false) (o, s, (q : Int), false)) ∧
  (fourR s d p out = none → ∃ o q, Ev (fun k => impl_scan_levels.l0 k out (i : Int) s (p : Int) false) (o, s, q, true)) := by
 induction d with
 | zero =>
  intro i p out hi hl hp
  rw [fourR]
  refine ⟨fun o q h => ?_, fun h => by cases h⟩
  cases h
  refine Ev.step (f := fun _ => some (out, s, (p : Int), false)) (fun k => ?_) (Ev.now _)
  simp only [impl_scan_levels.l0]
  rw [if_neg (by omega)]
 | succ d ih =>
  intro i p out hi hl hp
  rw [fourR]
  have e2 : wrap64 ((i : Int) + 1) = ((i + 1 : Nat) : Int) := by rw [wrap_id (by omega) (by omega)]; omega
  cases hv : runsO s 16 p with
  | none =>
   refine ⟨fun o q h => (by cases h), fun _ => ?_⟩
   obtain ⟨o1, q1, hl1, h1'⟩ := iruns_none (n := 16) hr hp (by omega) hv
   have h1 : Ev (fun k => impl_scan_runs.f k s (p : Int) false 16) (o1, s, q1, true) := h1'
   obtain ⟨o, h2⟩ := ilev_bad s d (i + 1) (out ++ o1) q1 (by omega) (by rw [List.length_append]; omega)
   have g : out.length + o1.length < 17592186044416 := by omega
   refine ⟨o, q1, Ev.step (fun k => by simp only [impl_scan_levels.l0]; rw [if_pos (by omega)]) (Ev.bind h1 ?_)⟩
   simp only [e2, g, if_true]
   exact h2
  | some v =>
   obtain ⟨o1, q1⟩ := v
   have h1 : Ev (fun k => impl_scan_runs.f k s (p : Int) false 16) (o1, s, (q1 : Int), false) := iruns_good (n := 16) hr hp (by omega) hv
   have hi1 := runsO_in hr hp hv
   have hn := ih (i + 1) q1 (out ++ o1) (by omega) (by rw [List.length_append]; omega) hi1.2
   have g : out.length + o1.length < 17592186044416 := by omega
   refine ⟨fun o q h => ?_, fun h => ?_⟩
   ·refine Ev.step (fun k => by simp only [impl_scan_levels.l0]; rw [if_pos (by omega)]) (Ev.bind h1 ?_)
    simp only [e2, g, if_true]
    exact hn.1 o q h
   ·obtain ⟨o, q, h2⟩ := hn.2 h
    refine ⟨o, q, Ev.step (fun k => by simp only [impl_scan_levels.l0]; rw [if_pos (by omega)]) (Ev.bind h1 ?_)⟩
    simp only [e2, g, if_true]
    exact h2
/-- What levels answers, of a state that is not bad. -/
theorem ilevels_ev (s : ByteArray) (hr : RowR s) (c : Bool) (q : Int) (large ex : Bool) (p : Nat) (hp : p ≤ s.size) :
  ∃ o r b, Ev (fun k => impl_scan_levels.f k s (p : Int) false c q large ex) (o, s, r, b) ∧ (if b = true then (([] : List Int), (0 : Int), false) else (o, r, true)) = outR (levelsR s large ex p) := by
 have h64 : ∃ o r b, Ev (fun k => impl_scan_levels.j0 k true s (p : Int) false) (o, s, r, b) ∧ (if b = true then (([] : List Int), (0 : Int), false) else (o, r, true)) = outR (runsO s 64 p) := by
  obtain ⟨o, r, b, _, e, hv⟩ := iruns_all s hr p 64 hp (by omega)
  rw [runsAll_eq] at hv
  exact ⟨o, r, b, Ev.step (fun k => by simp only [impl_scan_levels.j0, if_true]; rfl) (Ev.bind e (Ev.now _)), hv⟩
 have h16 : ∃ o r b, Ev (fun k => impl_scan_levels.j0 k false s (p : Int) false) (o, s, r, b) ∧ (if b = true then (([] : List Int), (0 : Int), false) else (o, r, true)) = outR (fourR s 4 p []) := by
  have hl := ilev_loop s hr 4 0 p [] (by omega) (by simp) hp
  cases hv : fourR s 4 p [] with
  | none =>
   obtain ⟨o, r, e⟩ := hl.2 hv
   exact ⟨o, r, true, Ev.step (fun k => by simp only [impl_scan_levels.j0, Bool.false_eq_true, if_false]; rfl) e, rfl⟩
  | some v =>
   obtain ⟨o, r⟩ := v
   exact ⟨o, r, false, Ev.step (fun k => by simp only [impl_scan_levels.j0, Bool.false_eq_true, if_false]; rfl) (hl.1 o r hv), rfl⟩
 unfold impl_scan_levels.f levelsR
 cases large <;> cases ex <;> simp only [if_true, Bool.false_eq_true, if_false, or_self, or_true, true_or] <;> assumption
theorem ilevels_badev (s : ByteArray) (a : Int) (c : Bool) (q : Int) (large ex : Bool) : ∃ o, Ev (fun k => impl_scan_levels.f k s a true c q large ex) (o, s, a, true) := by
 have h64 : ∃ o, Ev (fun k => impl_scan_levels.j0 k true s a true) (o, s, a, true) :=
  ⟨_, Ev.step (fun k => by simp only [impl_scan_levels.j0, if_true]; rfl) (Ev.bind (iruns_bad s a 64 (by omega)) (Ev.now _))⟩
 have h16 : ∃ o, Ev (fun k => impl_scan_levels.j0 k false s a true) (o, s, a, true) := by
  obtain ⟨o, e⟩ := ilev_bad s 4 0 [] a (by omega) (by simp)
  exact ⟨o, Ev.step (fun k => by simp only [impl_scan_levels.j0, Bool.false_eq_true, if_false]; rfl) e⟩
 unfold impl_scan_levels.f
 cases large <;> cases ex <;> simp only [if_true, Bool.false_eq_true, if_false] <;> assumption
theorem ilevels_good {s : ByteArray} (hr : RowR s) (c : Bool) (q : Int) (large ex : Bool) {p : Nat} (hp : p ≤ s.size) {o : List Int} {r : Nat} (h : levelsR s large ex p = some (o, r)) : Ev (fun k => impl_scan_levels.f k s (p : Int) false c q large ex) (o, s, (r : Int), false) := by
 obtain ⟨o', r', b, e, hv⟩ := ilevels_ev s hr c q large ex p hp
 rw [h] at hv
 cases b with
 | true => simp [outR] at hv
 | false =>
  simp only [Bool.false_eq_true, if_false, outR, Prod.mk.injEq] at hv
  obtain ⟨rfl, rfl, _⟩ := hv
  exact e
theorem sl14_loop (s : ByteArray) (hr : RowR s) (d : Nat) : ∀ (i p : Nat) (out : List Int), i + d = 4 → out.length ≤ 16 * i → p ≤ s.size → Ev (fun k => spec_l14Read.l0 k s (p : Int) out (i : Int)) (outR (fourR s d p out)) := by
 induction d with
 | zero =>
  intro i p out hi hl hp
  rw [fourR]
  refine Ev.step (f := fun _ => some (out, (p : Int), true)) (fun k => ?_) (Ev.now _)
  simp only [spec_l14Read.l0]
  rw [if_neg (by omega)]
 | succ d ih =>
  intro i p out hi hl hp
  rw [fourR]
  have e2 : wrap64 ((i : Int) + 1) = ((i + 1 : Nat) : Int) := by rw [wrap_id (by omega) (by omega)]; omega
  have h1' := sruns_all s hr p 16 hp (by omega)
  rw [runsAll_eq] at h1'
  have h1 : Ev (fun k => spec_l11Read.f k s (p : Int) 16) (outR (runsO s 16 p)) := h1'
  refine Ev.step (fun k => by simp only [spec_l14Read.l0]; rw [if_pos (by omega)]) (Ev.bind h1 ?_)
  cases hv : runsO s 16 p with
  | none => simp only [outR, Bool.false_eq_true, if_false, Option.bind_none]; exact Ev.now _
  | some v =>
   obtain ⟨o1, q1⟩ := v
   have hi1 := runsO_in hr hp hv
   have g : out.length + o1.length < 17592186044416 := by omega
   simp only [outR, if_true, Option.bind_some, e2, g]
   exact ih (i + 1) q1 (out ++ o1) (by omega) (by rw [List.length_append]; omega) hi1.2
theorem sl14_ev (s : ByteArray) (hr : RowR s) (c : Bool) (q : Int) (large ex : Bool) (p : Nat) (hp : p ≤ s.size) : Ev (fun k => spec_l14Read.f k s (p : Int) c q large ex) (outR (levelsR s large ex p)) := by
 have h64 : Ev (fun k => spec_l14Read.j0 k s (p : Int) true) (outR (runsO s 64 p)) := by
  have h1 := sruns_all s hr p 64 hp (by omega)
  rw [runsAll_eq] at h1
  exact Ev.step (fun k => by simp only [spec_l14Read.j0, if_true]; rfl) (Ev.bind h1 (Ev.now _))
 have h16 : Ev (fun k => spec_l14Read.j0 k s (p : Int) false) (outR (fourR s 4 p [])) :=
  Ev.step (fun k => by simp only [spec_l14Read.j0, Bool.false_eq_true, if_false]; rfl) (sl14_loop s hr 4 0 p [] (by omega) (by simp) hp)
 unfold spec_l14Read.f levelsR
 cases large <;> cases ex <;> simp only [if_true, Bool.false_eq_true, if_false, or_self, or_true, true_or] <;> assumption
theorem len_decs (l : List Int) (n : Nat) (m : Int) (h : m = (n : Int)) : decide ((l.length : Int) = m) = decide (l.length = n) := by rw [decide_eq_decide]; omega
def levB (l : List Int) : Bool := decide (l.length = 64) && allB (-5000) 5000 l
/-- What a right square is. -/
def sqB (kd mode dx dy : Int) (l : List Int) : Bool :=
 if kd = 0 then decide (mode = 0) && (decide (dx = 0) && (decide (dy = 0) && decide (l.length = 0)))
 else if kd = 1 then decide (mode = 0) && (decide (-16 ≤ dx ∧ dx ≤ 16) && (decide (-16 ≤ dy ∧ dy ≤ 16) && levB l))
 else if kd = 2 then decide (0 ≤ mode ∧ mode ≤ 3) && (decide (dx = 0) && (decide (dy = 0) && levB l))
 else false
theorem levels_ev (l : List Int) (hl : l.length ≤ 17592186043904) : Ev (fun k => impl_areLevels.f k l) (levB l) := by
 unfold impl_areLevels.f levB
 have h := areIn_ev l 64 (-5000) 5000 hl
 rw [len_decs l 64 64 rfl] at h
 exact Ev.bind h (Ev.now _)
theorem slevels_ev (l : List Int) (hl : l.length ≤ 17592186043904) : Ev (fun k => spec_l09All.f k l 64 5000) (levB l) := by
 unfold levB
 have h := all_ev l 64 5000 hl (by omega) (by omega)
 rwa [len_decs l 64 64 rfl] at h
theorem len0 (l : List Int) : ((l.length : Int) == 0) = decide (l.length = 0) := by
 rw [Bool.eq_iff_iff, beq_iff_eq, decide_eq_true_eq]; omega
theorem sqok_ev (kd mode dx dy : Int) (l : List Int) (hl : l.length ≤ 17592186043904) : Ev (fun k => impl_SquareOk.f k kd mode dx dy l) (sqB kd mode dx dy l) := by
 have hL := levels_ev l hl
 unfold impl_SquareOk.f sqB
 simp only [within_eq, Option.bind_some, len0]
 by_cases k0 : kd = 0
 ·simp only [if_pos k0]
  by_cases a : mode = 0 <;> by_cases b : dx = 0 <;> by_cases c : dy = 0 <;> simp only [a, b, c, if_true, if_false, decide_true, decide_false, Bool.true_and, Bool.false_and] <;> exact Ev.now _
 ·by_cases k1 : kd = 1
  ·simp only [if_neg k0, if_pos k1]
   by_cases a : mode = 0
   ·by_cases b : -16 ≤ dx ∧ dx ≤ 16
    ·by_cases c : -16 ≤ dy ∧ dy ≤ 16
     ·simp only [a, b, c, and_self, if_true, decide_true, Bool.true_and]
      exact Ev.bind hL (Ev.now _)
     ·simp only [a, b, c, and_self, if_true, decide_true, decide_false, Bool.true_and, Bool.false_and, Bool.false_eq_true, if_false]; exact Ev.now _
    ·simp only [a, b, if_true, decide_true, decide_false, Bool.true_and, Bool.false_and, Bool.false_eq_true, if_false]; exact Ev.now _
   ·simp only [a, decide_false, Bool.false_and, if_false]; exact Ev.now _
  ·by_cases k2 : kd = 2
   ·simp only [if_neg k0, if_neg k1, if_pos k2]
    by_cases a : 0 ≤ mode ∧ mode ≤ 3
    ·by_cases b : dx = 0
     ·by_cases c : dy = 0
      ·simp only [a, b, c, and_self, if_true, decide_true, Bool.true_and]
       exact Ev.bind hL (Ev.now _)
      ·simp only [a, b, c, and_self, if_true, decide_true, decide_false, Bool.true_and, Bool.false_and, Bool.false_eq_true, if_false]; exact Ev.now _
     ·simp only [a, b, and_self, if_true, decide_true, decide_false, Bool.true_and, Bool.false_and, Bool.false_eq_true, if_false]; exact Ev.now _
    ·simp only [a, decide_false, Bool.false_and, Bool.false_eq_true, if_false]; exact Ev.now _
   ·simp only [if_neg k0, if_neg k1, if_neg k2]; exact Ev.now _
theorem ssqok_ev (kd mode dx dy : Int) (l : List Int) (hl : l.length ≤ 17592186043904) : Ev (fun k => spec_SquareOk.f k kd mode dx dy l) (sqB kd mode dx dy l) := by
 have hL := slevels_ev l hl
 unfold spec_SquareOk.f sqB
 simp only [in_eq, Option.bind_some, len0]
 by_cases k0 : kd = 0
 ·simp only [if_pos k0]
  by_cases a : mode = 0 <;> by_cases b : dx = 0 <;> by_cases c : dy = 0 <;> simp only [a, b, c, if_true, if_false, decide_true, decide_false, Bool.true_and, Bool.false_and] <;> exact Ev.now _
 ·by_cases k1 : kd = 1
  ·simp only [if_neg k0, if_pos k1]
   by_cases a : mode = 0
   ·by_cases b : -16 ≤ dx ∧ dx ≤ 16
    ·by_cases c : -16 ≤ dy ∧ dy ≤ 16
     ·simp only [a, b, c, and_self, if_true, decide_true, Bool.true_and]
      exact Ev.bind hL (Ev.now _)
     ·simp only [a, b, c, and_self, if_true, decide_true, decide_false, Bool.true_and, Bool.false_and, Bool.false_eq_true, if_false]; exact Ev.now _
    ·simp only [a, b, if_true, decide_true, decide_false, Bool.true_and, Bool.false_and, Bool.false_eq_true, if_false]; exact Ev.now _
   ·simp only [a, decide_false, Bool.false_and, if_false]; exact Ev.now _
  ·by_cases k2 : kd = 2
   ·simp only [if_neg k0, if_neg k1, if_pos k2]
    by_cases a : 0 ≤ mode ∧ mode ≤ 3
    ·by_cases b : dx = 0
     ·by_cases c : dy = 0
      ·simp only [a, b, c, and_self, if_true, decide_true, Bool.true_and]
       exact Ev.bind hL (Ev.now _)
      ·simp only [a, b, c, and_self, if_true, decide_true, decide_false, Bool.true_and, Bool.false_and, Bool.false_eq_true, if_false]; exact Ev.now _
     ·simp only [a, b, and_self, if_true, decide_true, decide_false, Bool.true_and, Bool.false_and, Bool.false_eq_true, if_false]; exact Ev.now _
    ·simp only [a, decide_false, Bool.false_and, Bool.false_eq_true, if_false]; exact Ev.now _
   ·simp only [if_neg k0, if_neg k1, if_neg k2]; exact Ev.now _
/-- What stands behind a square's kind. -/
def restSq (s : ByteArray) (large ex : Bool) (kd : Int) (p : Nat) : Option (Int × Int × Int × List Int × Nat) :=
 if kd = 0 then some (0, 0, 0, [], p)
 else if kd = 1 then
  (if UeOk s p ∧ UeOk s (ueE s p) then
   (levelsR s large ex (ueE s (ueE s p))).bind fun v => if sqB 1 0 (openN (ueN s p)) (openN (ueN s (ueE s p))) v.1 = true then some (0, openN (ueN s p), openN (ueN s (ueE s p)), v.1, v.2) else none
  else none)
 else if kd = 2 then
  (if UeOk s p then (levelsR s large ex (ueE s p)).bind fun v => if sqB 2 (ueN s p) 0 0 v.1 = true then some (ueN s p, 0, 0, v.1, v.2) else none else none)
 else none
/-- A square that is read from p on. -/
def squareR (s : ByteArray) (key large ex : Bool) (p : Nat) : Option (Int × Int × Int × Int × List Int × Nat) :=
 if key = true then (restSq s large ex 2 p).map fun v => (2, v) else if UeOk s p then (restSq s large ex (ueN s p) (ueE s p)).map fun v => (ueN s p, v) else none
def outS (o : Option (Int × Int × Int × Int × List Int × Nat)) : Int × Int × Int × Int × List Int × Int × Bool :=
 match o with
 | some (a, b, c, d, l, p) => (a, b, c, d, l, (p : Int), true)
 | none => (0, 0, 0, 0, [], 0, false)
theorem levels_in {s : ByteArray} (hr : RowR s) {large ex : Bool} {p : Nat} {o : List Int} {q : Nat} (hp : p ≤ s.size) (h : levelsR s large ex p = some (o, q)) : o.length ≤ 64 := by
 have := levelsR_len hr hp h
 omega
theorem ilevels_none {s : ByteArray} (hr : RowR s) (c : Bool) (q : Int) (large ex : Bool) {p : Nat} (hp : p ≤ s.size) (h : levelsR s large ex p = none) : ∃ o r, Ev (fun k => impl_scan_levels.f k s (p : Int) false c q large ex) (o, s, r, true) := by
 obtain ⟨o, r, b, e, hv⟩ := ilevels_ev s hr c q large ex p hp
 rw [h] at hv
 cases b with
 | true => exact ⟨o, r, e⟩
 | false => simp [outR] at hv
theorem sebad_ev (s : ByteArray) (q : Int) : Ev (fun k => impl_scan_se.f k s q true) (0, s, q, true) := se_end s q q true (uebad_ev s q)
/-- The program's square, behind its kind: right, or bad. -/
theorem sqj0_ev {s : ByteArray} (hr : RowR s) (key : Bool) (q : Int) (large ex : Bool) (kd : Int) (h0 : 0 ≤ kd) (p : Nat) (hp : p ≤ s.size) :
  (∀ m dx dy l p', restSq s large ex kd p = some (m, dx, dy, l, p') → Ev (fun k => impl_scan_square.j0 k s (p : Int) false key q large ex kd 0 0 0) (kd, m, dx, dy, l, s, (p' : Int), false)) ∧
  (restSq s large ex kd p = none → ∃ m dx dy l p', Ev (fun k => impl_scan_square.j0 k s (p : Int) false key q large ex kd 0 0 0) (kd, m, dx, dy, l, s, p', true)) := by
 unfold restSq
 by_cases k1 : kd = 1
 ·subst k1
  rw [if_neg (by omega), if_pos rfl]
  have st : ∀ (v : Int × Int × Int × Int × List Int × ByteArray × Int × Bool), Ev (fun k => (impl_scan_se.f k s (p : Int) false).bind fun bt428 => ((impl_scan_se.f k bt428.2.1 bt428.2.2.1 bt428.2.2.2).bind fun bt432 => ((impl_scan_levels.f k bt432.2.1 bt432.2.2.1 bt432.2.2.2 key q large ex).bind fun bt436 => (if bt436.2.2.2 = true then (some (1, 0, bt428.1, bt432.1, bt436.1, bt436.2.1, bt436.2.2.1, true)) else ((impl_SquareOk.f k 1 0 bt428.1 bt432.1 bt436.1).bind fun t442 => (some (1, 0, bt428.1, bt432.1, bt436.1, bt436.2.1, bt436.2.2.1, !t442))))))) v →
    Ev (fun k => impl_scan_square.j0 k s (p : Int) false key q large ex 1 0 0 0) v := fun v hv => Ev.step (fun k => by simp only [impl_scan_square.j0, Bool.false_eq_true, if_false, if_true]) hv
  by_cases ok : UeOk s p ∧ UeOk s (ueE s p)
  ·rw [if_pos ok]
   have s1 := se_ok s hr p hp ok.1
   have s2 := se_ok s hr (ueE s p) ok.1.2.1 ok.2
   cases hv : levelsR s large ex (ueE s (ueE s p)) with
   | none =>
    refine ⟨fun m dx dy l p' h => (by cases h), fun _ => ?_⟩
    obtain ⟨o, r, e⟩ := ilevels_none hr key q large ex ok.2.2.1 hv
    refine ⟨0, openN (ueN s p), openN (ueN s (ueE s p)), o, r, st _ (Ev.bind s1 (Ev.bind s2 (Ev.bind e ?_)))⟩
    simp only [if_true]
    exact Ev.now _
   | some v =>
    obtain ⟨o, r⟩ := v
    have e := ilevels_good hr key q large ex ok.2.2.1 hv
    have hl := levels_in hr ok.2.2.1 hv
    have eo := sqok_ev 1 0 (openN (ueN s p)) (openN (ueN s (ueE s p))) o (by omega)
    rw [Option.bind_some]
    by_cases c : sqB 1 0 (openN (ueN s p)) (openN (ueN s (ueE s p))) o = true
    ·rw [if_pos c]
     rw [c] at eo
     refine ⟨fun m dx dy l p' h => ?_, fun h => by cases h⟩
     simp only [Option.some.injEq, Prod.mk.injEq] at h
     obtain ⟨rfl, rfl, rfl, rfl, rfl⟩ := h
     refine st _ (Ev.bind s1 (Ev.bind s2 (Ev.bind e ?_)))
     simp only [Bool.false_eq_true, if_false]
     exact Ev.bind eo (Ev.now _)
    ·rw [if_neg c]
     rw [Bool.eq_false_iff.2 c] at eo
     refine ⟨fun m dx dy l p' h => (by cases h), fun _ => ⟨0, openN (ueN s p), openN (ueN s (ueE s p)), o, (r : Int), st _ (Ev.bind s1 (Ev.bind s2 (Ev.bind e ?_)))⟩⟩
     simp only [Bool.false_eq_true, if_false]
     exact Ev.bind eo (Ev.now _)
  ·rw [if_neg ok]
   refine ⟨fun m dx dy l p' h => (by cases h), fun _ => ?_⟩
   by_cases o1 : UeOk s p
   ·have o2 : ¬ UeOk s (ueE s p) := fun h => ok ⟨o1, h⟩
    have s1 := se_ok s hr p hp o1
    obtain ⟨q2, hq2⟩ := ue_no s hr (ueE s p) o1.2.1 o2
    have s2 := se_end s (ueE s p : Int) q2 false hq2
    obtain ⟨o, e⟩ := ilevels_badev s q2 key q large ex
    refine ⟨0, openN (ueN s p), 0, o, q2, st _ (Ev.bind s1 (Ev.bind s2 (Ev.bind e ?_)))⟩
    simp only [if_true]
    exact Ev.now _
   ·obtain ⟨q1, hq1⟩ := ue_no s hr p hp o1
    have s1 := se_end s (p : Int) q1 false hq1
    obtain ⟨o, e⟩ := ilevels_badev s q1 key q large ex
    refine ⟨0, 0, 0, o, q1, st _ (Ev.bind s1 (Ev.bind (sebad_ev s q1) (Ev.bind e ?_)))⟩
    simp only [if_true]
    exact Ev.now _
 ·by_cases k2 : kd = 2
  ·subst k2
   rw [if_neg (by omega), if_neg (by omega), if_pos rfl]
   have st : ∀ (v : Int × Int × Int × Int × List Int × ByteArray × Int × Bool), Ev (fun k => (impl_scan_ue.f k s (p : Int) false).bind fun bt443 => ((impl_scan_levels.f k bt443.2.1 bt443.2.2.1 bt443.2.2.2 key q large ex).bind fun bt447 => (if bt447.2.2.2 = true then (some (2, bt443.1, 0, 0, bt447.1, bt447.2.1, bt447.2.2.1, true)) else ((impl_SquareOk.f k 2 bt443.1 0 0 bt447.1).bind fun t453 => (some (2, bt443.1, 0, 0, bt447.1, bt447.2.1, bt447.2.2.1, !t453)))))) v →
     Ev (fun k => impl_scan_square.j0 k s (p : Int) false key q large ex 2 0 0 0) v := fun v hv => Ev.step (fun k => by simp only [impl_scan_square.j0, Bool.false_eq_true, if_false]; rw [if_neg (by omega), if_pos trivial]) hv
   by_cases ok : UeOk s p
   ·rw [if_pos ok]
    have s1 := ue_ok s hr p hp ok
    cases hv : levelsR s large ex (ueE s p) with
    | none =>
     refine ⟨fun m dx dy l p' h => (by cases h), fun _ => ?_⟩
     obtain ⟨o, r, e⟩ := ilevels_none hr key q large ex ok.2.1 hv
     refine ⟨ueN s p, 0, 0, o, r, st _ (Ev.bind s1 (Ev.bind e ?_))⟩
     simp only [if_true]
     exact Ev.now _
    | some v =>
     obtain ⟨o, r⟩ := v
     have e := ilevels_good hr key q large ex ok.2.1 hv
     have hl := levels_in hr ok.2.1 hv
     have eo := sqok_ev 2 (ueN s p) 0 0 o (by omega)
     rw [Option.bind_some]
     by_cases c : sqB 2 (ueN s p) 0 0 o = true
     ·rw [if_pos c]
      rw [c] at eo
      refine ⟨fun m dx dy l p' h => ?_, fun h => by cases h⟩
      simp only [Option.some.injEq, Prod.mk.injEq] at h
      obtain ⟨rfl, rfl, rfl, rfl, rfl⟩ := h
      refine st _ (Ev.bind s1 (Ev.bind e ?_))
      simp only [Bool.false_eq_true, if_false]
      exact Ev.bind eo (Ev.now _)
     ·rw [if_neg c]
      rw [Bool.eq_false_iff.2 c] at eo
      refine ⟨fun m dx dy l p' h => (by cases h), fun _ => ⟨ueN s p, 0, 0, o, (r : Int), st _ (Ev.bind s1 (Ev.bind e ?_))⟩⟩
      simp only [Bool.false_eq_true, if_false]
      exact Ev.bind eo (Ev.now _)
   ·rw [if_neg ok]
    refine ⟨fun m dx dy l p' h => (by cases h), fun _ => ?_⟩
    obtain ⟨q1, hq1⟩ := ue_no s hr p hp ok
    obtain ⟨o, e⟩ := ilevels_badev s q1 key q large ex
    refine ⟨0, 0, 0, o, q1, st _ (Ev.bind hq1 (Ev.bind e ?_))⟩
    simp only [if_true]
    exact Ev.now _
  ·have eo := sqok_ev kd 0 0 0 [] (by simp)
   have st : ∀ b : Bool, Ev (fun k => impl_SquareOk.f k kd 0 0 0 []) b → Ev (fun k => impl_scan_square.j0 k s (p : Int) false key q large ex kd 0 0 0) (kd, 0, 0, 0, [], s, (p : Int), !b) := fun b hb =>
    Ev.step (fun k => by simp only [impl_scan_square.j0, Bool.false_eq_true, if_false, k1, k2]; rfl) (Ev.bind hb (Ev.now _))
   by_cases k0 : kd = 0
   ·subst k0
    rw [if_pos rfl]
    refine ⟨fun m dx dy l p' h => ?_, fun h => by cases h⟩
    simp only [Option.some.injEq, Prod.mk.injEq] at h
    obtain ⟨rfl, rfl, rfl, rfl, rfl⟩ := h
    exact st true eo
   ·rw [if_neg k0, if_neg k1, if_neg k2]
    refine ⟨fun m dx dy l p' h => (by cases h), fun _ => ⟨0, 0, 0, [], (p : Int), st false ?_⟩⟩
    unfold sqB at eo
    rw [if_neg k0, if_neg k1, if_neg k2] at eo
    exact eo
theorem iscan_square {s : ByteArray} (hr : RowR s) (key : Bool) (q : Int) (large ex : Bool) (p : Nat) (hp : p ≤ s.size) :
  ∃ a b c d l r z, Ev (fun k => impl_scan_square.f k s (p : Int) false key q large ex) (a, b, c, d, l, s, r, z) ∧ (if z = true then ((0 : Int), (0 : Int), (0 : Int), (0 : Int), ([] : List Int), (0 : Int), false) else (a, b, c, d, l, r, true)) = outS (squareR s key large ex p) := by
 unfold impl_scan_square.f squareR
 cases key with
 | true =>
  simp only [if_true]
  have h := sqj0_ev hr true q large ex 2 (by omega) p hp
  cases hv : restSq s large ex 2 p with
  | none =>
   obtain ⟨m, dx, dy, l, p', e⟩ := h.2 hv
   exact ⟨_, _, _, _, _, _, _, e, rfl⟩
  | some v =>
   obtain ⟨m, dx, dy, l, p'⟩ := v
   exact ⟨_, _, _, _, _, _, _, h.1 m dx dy l p' hv, rfl⟩
 | false =>
  simp only [Bool.false_eq_true, if_false]
  by_cases ok : UeOk s p
  ·rw [if_pos ok]
   have h := sqj0_ev hr false q large ex (ueN s p) (ueN_nonneg s hr p hp ok) (ueE s p) ok.2.1
   cases hv : restSq s large ex (ueN s p) (ueE s p) with
   | none =>
    obtain ⟨m, dx, dy, l, p', e⟩ := h.2 hv
    exact ⟨_, _, _, _, _, _, _, Ev.bind (ue_ok s hr p hp ok) e, rfl⟩
   | some v =>
    obtain ⟨m, dx, dy, l, p'⟩ := v
    exact ⟨_, _, _, _, _, _, _, Ev.bind (ue_ok s hr p hp ok) (h.1 m dx dy l p' hv), rfl⟩
  ·rw [if_neg ok]
   obtain ⟨q1, hq1⟩ := ue_no s hr p hp ok
   exact ⟨_, _, _, _, _, _, _, Ev.bind hq1 (Ev.step (f := fun _ => some (0, 0, 0, 0, [], s, q1, true)) (fun k => by simp only [impl_scan_square.j0, if_true]) (Ev.now _)), rfl⟩
theorem iscan_square_bad (s : ByteArray) (a : Int) (key : Bool) (q : Int) (large ex : Bool) : ∃ x l, Ev (fun k => impl_scan_square.f k s a true key q large ex) (x, 0, 0, 0, l, s, a, true) := by
 have st : ∀ x : Int, Ev (fun k => impl_scan_square.j0 k s a true key q large ex x 0 0 0) (x, 0, 0, 0, [], s, a, true) := fun x => Ev.step (f := fun _ => some (x, 0, 0, 0, [], s, a, true)) (fun k => by simp only [impl_scan_square.j0, if_true]) (Ev.now _)
 unfold impl_scan_square.f
 cases key with
 | true => simp only [if_true]; exact ⟨_, _, st 2⟩
 | false => simp only [Bool.false_eq_true, if_false]; exact ⟨_, _, Ev.bind (uebad_ev s a) (st 0)⟩
theorem sj1_bad (s : ByteArray) (a : Int) (key : Bool) (q : Int) (large ex : Bool) (x y z t : Int) : Ev (fun k => spec_l15Read.j1 k s a false key q large ex x y z t) (0, 0, 0, 0, [], 0, false) := Ev.step (f := fun _ => some (0, 0, 0, 0, [], 0, false)) (fun k => by simp only [spec_l15Read.j1, Bool.false_eq_true, if_false]) (Ev.now _)
theorem sj1_ev {s : ByteArray} (hr : RowR s) (key : Bool) (q : Int) (large ex : Bool) (x y z t : Int) (p : Nat) (hp : p ≤ s.size) :
  Ev (fun k => spec_l15Read.j1 k s (p : Int) true key q large ex x y z t) (outS ((levelsR s large ex p).bind fun v => if sqB x y z t v.1 = true then some (x, y, z, t, v.1, v.2) else none)) := by
 refine Ev.step (fun k => by simp only [spec_l15Read.j1, if_true]; rfl) (Ev.bind (sl14_ev s hr key q large ex p hp) ?_)
 cases hv : levelsR s large ex p with
 | none => simp only [outR, Bool.false_eq_true, if_false, Option.bind_none, outS]; exact Ev.now _
 | some v =>
  obtain ⟨o, r⟩ := v
  have hl := levels_in hr hp hv
  have eo := ssqok_ev x y z t o (by omega)
  simp only [outR, if_true, Option.bind_some]
  refine Ev.bind eo ?_
  by_cases c : sqB x y z t o = true
  ·simp only [c, if_true, outS]; exact Ev.now _
  ·simp only [Bool.eq_false_iff.2 c, Bool.false_eq_true, if_false, outS]; exact Ev.now _
theorem sj0_ev {s : ByteArray} (hr : RowR s) (key : Bool) (q : Int) (large ex : Bool) (kd : Int) (h : kd = 0 ∨ kd = 1 ∨ kd = 2) (p : Nat) (hp : p ≤ s.size) :
  Ev (fun k => spec_l15Read.j0 k s (p : Int) key q large ex kd 0 0 0) (outS ((restSq s large ex kd p).map fun v => (kd, v))) := by
 unfold restSq
 rcases h with e | e | e
 ·subst e
  rw [if_pos rfl]
  refine Ev.step (f := fun _ => some (0, 0, 0, 0, [], (p : Int), true)) (fun k => ?_) (Ev.now _)
  simp only [spec_l15Read.j0, if_true]
 ·subst e
  rw [if_neg (by omega), if_pos rfl]
  refine Ev.step (fun k => by simp only [spec_l15Read.j0]; rw [if_neg (by omega), if_pos trivial]) (Ev.bind (sse_read s hr p hp) ?_)
  by_cases o1 : UeOk s p
  ·simp only [o1, if_true, true_and]
   refine Ev.bind (sse_read s hr (ueE s p) o1.2.1) ?_
   by_cases o2 : UeOk s (ueE s p)
   ·simp only [o2, if_true]
    have e := sj1_ev hr key q large ex 1 0 (openN (ueN s p)) (openN (ueN s (ueE s p))) (ueE s (ueE s p)) o2.2.1
    have hv : (outS ((levelsR s large ex (ueE s (ueE s p))).bind fun v => if sqB 1 0 (openN (ueN s p)) (openN (ueN s (ueE s p))) v.1 = true then some (1, 0, openN (ueN s p), openN (ueN s (ueE s p)), v.1, v.2) else none)) =
      outS (((levelsR s large ex (ueE s (ueE s p))).bind fun v => if sqB 1 0 (openN (ueN s p)) (openN (ueN s (ueE s p))) v.1 = true then some (0, openN (ueN s p), openN (ueN s (ueE s p)), v.1, v.2) else none).map fun v => (1, v)) := by
     cases levelsR s large ex (ueE s (ueE s p)) with
     | none => rfl
     | some v => simp only [Option.bind_some]; split <;> rfl
    rw [hv] at e
    exact e
   ·simp only [o2, if_false]
    exact sj1_bad _ _ _ _ _ _ _ _ _ _
  ·simp only [o1, if_false, false_and, Bool.false_eq_true]
   exact Ev.now _
 ·subst e
  rw [if_neg (by omega), if_neg (by omega), if_pos rfl]
  refine Ev.step (fun k => by simp only [spec_l15Read.j0]; rw [if_neg (by omega), if_neg (by omega)]) (Ev.bind (sue_read s hr p hp) ?_)
  by_cases o1 : UeOk s p
  ·simp only [o1, if_true]
   have e := sj1_ev hr key q large ex 2 (ueN s p) 0 0 (ueE s p) o1.2.1
   have hv : (outS ((levelsR s large ex (ueE s p)).bind fun v => if sqB 2 (ueN s p) 0 0 v.1 = true then some (2, ueN s p, 0, 0, v.1, v.2) else none)) =
     outS (((levelsR s large ex (ueE s p)).bind fun v => if sqB 2 (ueN s p) 0 0 v.1 = true then some (ueN s p, 0, 0, v.1, v.2) else none).map fun v => (2, v)) := by
    cases levelsR s large ex (ueE s p) with
    | none => rfl
    | some v => simp only [Option.bind_some]; split <;> rfl
   rw [hv] at e
   exact e
  ·simp only [o1, if_false]
   exact sj1_bad _ _ _ _ _ _ _ _ _ _
theorem sl15read_ev {s : ByteArray} (hr : RowR s) (key : Bool) (q : Int) (large ex : Bool) (p : Nat) (hp : p ≤ s.size) : Ev (fun k => spec_l15Read.f k s (p : Int) key q large ex) (outS (squareR s key large ex p)) := by
 unfold spec_l15Read.f squareR
 cases key with
 | true =>
  simp only [if_true]
  exact sj0_ev hr true q large ex 2 (by omega) p hp
 | false =>
  simp only [Bool.false_eq_true, if_false]
  refine Ev.bind (sue_read s hr p hp) ?_
  by_cases ok : UeOk s p
  ·simp only [ok, if_true]
   have h0 := ueN_nonneg s hr p hp ok
   by_cases c : ueN s p > 2
   ·simp only [c, if_true]
    have : restSq s large ex (ueN s p) (ueE s p) = none := by
     unfold restSq
     rw [if_neg (by omega), if_neg (by omega), if_neg (by omega)]
    rw [this]
    exact Ev.now _
   ·simp only [c, if_false]
    exact sj0_ev hr false q large ex (ueN s p) (by omega) (ueE s p) ok.2.1
  ·simp only [ok, if_false, Bool.false_eq_true]
   exact Ev.now _
/-- The numbers a, a + 1, .., n of them. -/
def marks : Nat → Int → List Int
 | 0, _ => []
 | n + 1, a => a :: marks n (a + 1)
theorem marks_length (n : Nat) : ∀ a, (marks n a).length = n := by
 induction n with
 | zero => intro a; rfl
 | succ n ih => intro a; simp [marks, ih]
theorem marks_get (n : Nat) : ∀ (a : Int) (i : Nat) (h : i < (marks n a).length), (marks n a)[i] = a + i := by
 induction n with
 | zero => intro a i h; simp [marks] at h
 | succ n ih =>
  intro a i h
  cases i with
  | zero => simp [marks]
  | succ i =>
   have := ih (a + 1) i (by simp [marks] at h; exact h)
   simp only [marks, List.getElem_cons_succ]
   rw [this]
   have e : ((i + 1 : Nat) : Int) = (i : Int) + 1 := rfl
   rw [e]; omega
theorem mark_ev (l : List Int) (a : Int) (hl : l.length ≤ 17592186043904) (h0 : 0 ≤ a) (h1 : a ≤ 1000000000000) : Ev (fun k => laws_markIntS.f k l a) (a + (l.length : Int), marks l.length a) := by
 have hm := marks_length l.length a
 have H : ∀ i, i ≤ l.length → Ev (fun k => laws_markIntS.l0 k ((marks l.length a).take i ++ l.drop i) (a + (i : Int)) (i : Int)) (a + (l.length : Int), marks l.length a) := by
  refine down l.length ?_ ?_
  ·refine Ev.step (f := fun _ => some (a + (l.length : Int), marks l.length a)) (fun k => ?_) (Ev.now _)
   have e := mix_end (marks l.length a) l hm
   rw [hm] at e
   simp only [laws_markIntS.l0]
   rw [e, if_neg (by rw [hm]; omega)]
  ·intro i hi h
   refine Ev.step (fun k => ?_) h
   have e := mix_set (marks l.length a) l i (by omega) hi
   rw [marks_get] at e
   simp only [laws_markIntS.l0]
   rw [if_pos (by rw [mix_length _ _ _ hm (by omega)]; omega), if_pos (by omega), Int.toNat_natCast, e, wrap_id (x := a + (i : Int) + 1) (by omega) (by omega), wrap_id (x := (i : Int) + 1) (by omega) (by omega), Int.add_assoc, cast1]
 have h := H 0 (by omega)
 rw [mix_zero] at h
 simpa [laws_markIntS.f] using h
theorem held_ev (n : Nat) (a : Int) (hl : n ≤ 17592186043904) (h0 : 0 ≤ a) (h1 : a ≤ 1000000000000) : Ev (fun k => laws_heldIntS.f k (marks n a) a) (a + (n : Int)) := by
 have hm := marks_length n a
 have H : ∀ i, i ≤ n → Ev (fun k => laws_heldIntS.l0 k (marks n a) (a + (i : Int)) (i : Int)) (a + (n : Int)) := by
  refine down n ?_ ?_
  ·refine Ev.step (f := fun _ => some (a + (n : Int))) (fun k => ?_) (Ev.now _)
   simp only [laws_heldIntS.l0]
   rw [hm, if_neg (by omega)]
  ·intro i hi h
   refine Ev.step (fun k => ?_) h
   simp only [laws_heldIntS.l0]
   rw [if_pos (by omega), if_pos (by omega), rd_nat _ i (by omega), marks_get, if_pos rfl, wrap_id (x := a + (i : Int) + 1) (by omega) (by omega), wrap_id (x := (i : Int) + 1) (by omega) (by omega), Int.add_assoc, cast1]
 have h := H 0 (by omega)
 simpa [laws_heldIntS.f] using h
theorem eqSelf_ev (a : List Int) (ha : a.length ≤ 17592186043904) : Ev (fun k => laws_eqIntS.f k a a) true := by
 have h := eqInts_ev a a ha
 rwa [decide_eq_true rfl] at h
theorem fourR_end {s : ByteArray} (hr : RowR s) (d : Nat) : ∀ (p : Nat) (out o : List Int) (q : Nat), p ≤ s.size → fourR s d p out = some (o, q) → q ≤ s.size := by
 induction d with
 | zero =>
  intro p out o q hp h
  rw [fourR] at h
  cases h
  exact hp
 | succ d ih =>
  intro p out o q hp h
  rw [fourR] at h
  cases hv : runsO s 16 p with
  | none => rw [hv] at h; cases h
  | some v =>
   obtain ⟨o1, q1⟩ := v
   rw [hv] at h
   exact ih q1 (out ++ o1) o q (runsO_in hr hp hv).2 h
theorem levelsR_end {s : ByteArray} (hr : RowR s) {large ex : Bool} {p : Nat} {o : List Int} {q : Nat} (hp : p ≤ s.size) (h : levelsR s large ex p = some (o, q)) : q ≤ s.size := by
 unfold levelsR at h
 by_cases c : large = true ∨ ex = true
 ·rw [if_pos c] at h; exact (runsO_in hr hp h).2
 ·rw [if_neg c] at h; exact fourR_end hr 4 p [] o q hp h
theorem restSq_in {s : ByteArray} (hr : RowR s) {large ex : Bool} {kd : Int} {p : Nat} (hp : p ≤ s.size) {m dx dy : Int} {l : List Int} {p' : Nat} (h : restSq s large ex kd p = some (m, dx, dy, l, p')) : l.length ≤ 64 ∧ p' ≤ s.size := by
 unfold restSq at h
 by_cases k0 : kd = 0
 ·rw [if_pos k0] at h
  simp only [Option.some.injEq, Prod.mk.injEq] at h
  rw [← h.2.2.2.1, ← h.2.2.2.2]; exact ⟨by simp, hp⟩
 ·by_cases k1 : kd = 1
  ·rw [if_neg k0, if_pos k1] at h
   by_cases ok : UeOk s p ∧ UeOk s (ueE s p)
   ·rw [if_pos ok] at h
    cases hv : levelsR s large ex (ueE s (ueE s p)) with
    | none => rw [hv] at h; cases h
    | some v =>
     obtain ⟨o, r⟩ := v
     have hl := levels_in hr ok.2.2.1 hv
     have he := levelsR_end hr ok.2.2.1 hv
     rw [hv, Option.bind_some] at h
     split at h
     ·simp only [Option.some.injEq, Prod.mk.injEq] at h
      rw [← h.2.2.2.1, ← h.2.2.2.2]; exact ⟨hl, he⟩
     ·cases h
   ·rw [if_neg ok] at h; cases h
  ·by_cases k2 : kd = 2
   ·rw [if_neg k0, if_neg k1, if_pos k2] at h
    by_cases ok : UeOk s p
    ·rw [if_pos ok] at h
     cases hv : levelsR s large ex (ueE s p) with
     | none => rw [hv] at h; cases h
     | some v =>
      obtain ⟨o, r⟩ := v
      have hl := levels_in hr ok.2.1 hv
      have he := levelsR_end hr ok.2.1 hv
      rw [hv, Option.bind_some] at h
      split at h
      ·simp only [Option.some.injEq, Prod.mk.injEq] at h
       rw [← h.2.2.2.1, ← h.2.2.2.2]; exact ⟨hl, he⟩
      ·cases h
    ·rw [if_neg ok] at h; cases h
   ·rw [if_neg k0, if_neg k1, if_neg k2] at h; cases h
theorem squareR_in {s : ByteArray} (hr : RowR s) {key large ex : Bool} {p : Nat} (hp : p ≤ s.size) {a b c d : Int} {l : List Int} {p' : Nat} (h : squareR s key large ex p = some (a, b, c, d, l, p')) : l.length ≤ 64 ∧ p' ≤ s.size := by
 have one : ∀ (kd : Int) (p : Nat), p ≤ s.size → (restSq s large ex kd p).map (fun v => (kd, v)) = some (a, b, c, d, l, p') → l.length ≤ 64 ∧ p' ≤ s.size := by
  intro kd p hp h
  cases hv : restSq s large ex kd p with
  | none => rw [hv] at h; cases h
  | some v =>
   obtain ⟨m, dx, dy, l', q⟩ := v
   rw [hv] at h
   simp only [Option.map_some, Option.some.injEq, Prod.mk.injEq] at h
   have := restSq_in hr hp hv
   rw [← h.2.2.2.2.1, ← h.2.2.2.2.2]; exact this
 unfold squareR at h
 cases key with
 | true => rw [if_pos rfl] at h; exact one 2 p hp h
 | false =>
  rw [if_neg (by simp)] at h
  by_cases ok : UeOk s p
  ·rw [if_pos ok] at h; exact one _ _ ok.2.1 h
  ·rw [if_neg ok] at h; cases h
/-- n squares, one behind the other, from p on; behind the last one the row must end. -/
def tileT (s : ByteArray) (key large ex : Bool) : Nat → Nat → List S63 → List S63 × Bool
 | 0, p, out => if (p : Int) = (s.size : Int) then (out, true) else ([], false)
 | n + 1, p, out => match squareR s key large ex p with
  | none => ([], false)
  | some (a, b, c, d, l, p') => tileT s key large ex n p' (out ++ [⟨a, b, c, d, l⟩])
def smallS (n : Nat) (xs : List S63) : Prop := xs.length ≤ n ∧ ∀ x ∈ xs, x.f4.length ≤ 64
theorem tileT_in {s : ByteArray} (hr : RowR s) (key large ex : Bool) (n : Nat) : ∀ (p : Nat) (out : List S63) (m : Nat), p ≤ s.size → smallS m out → smallS (m + n) (tileT s key large ex n p out).1 := by
 induction n with
 | zero =>
  intro p out m hp ho
  rw [tileT]
  split
  ·exact ho
  ·exact ⟨by simp, by simp⟩
 | succ n ih =>
  intro p out m hp ho
  rw [tileT]
  cases hv : squareR s key large ex p with
  | none => exact ⟨by simp, by simp⟩
  | some v =>
   obtain ⟨a, b, c, d, l, p'⟩ := v
   have hi := squareR_in hr hp hv
   have := ih p' (out ++ [⟨a, b, c, d, l⟩]) (m + 1) hi.2 ⟨by rw [List.length_append]; have := ho.1; simp; omega, by
    intro x hx
    rcases List.mem_append.1 hx with h | h
    ·exact ho.2 x h
    ·rw [List.mem_singleton] at h; subst h; exact hi.1⟩
   rw [show m + (n + 1) = m + 1 + n by omega]
   exact this
def tileV (s : ByteArray) (a n : Int) (key : Bool) (q : Int) (large ex : Bool) : List S63 × Bool := if openB s a = true ∧ condB q large ex = true ∧ 1 ≤ n ∧ n ≤ 64 then tileT s key large ex n.toNat a.toNat [] else ([], false)
theorem tileV_in (s : ByteArray) (a n : Int) (key : Bool) (q : Int) (large ex : Bool) : smallS 64 (tileV s a n key q large ex).1 := by
 unfold tileV
 by_cases c : openB s a = true ∧ condB q large ex = true ∧ 1 ≤ n ∧ n ≤ 64
 ·rw [if_pos c]
  obtain ⟨hr, h0, h1⟩ := openB_good c.1
  have h := tileT_in hr key large ex n.toNat a.toNat [] 0 (by omega) ⟨by simp, by simp⟩
  exact ⟨by have := h.1; omega, h.2⟩
 ·rw [if_neg c]; exact ⟨by simp, by simp⟩
theorem itile_loop {s : ByteArray} (hr : RowR s) (key : Bool) (q : Int) (large ex : Bool) (n : Nat) (hn : n ≤ 64) (m : Nat) : ∀ (i p : Nat) (out : List S63), i + m = n → out.length = i → p ≤ s.size → Ev (fun k => impl_ReadTile.l0 k s out (n : Int) (i : Int) key q large ex s (p : Int) false) (tileT s key large ex m p out) := by
 induction m with
 | zero =>
  intro i p out hi ho hp
  rw [tileT]
  by_cases e : (p : Int) = (s.size : Int)
  ·refine Ev.step (f := fun _ => some (out, true)) (fun k => ?_) ?_
   ·simp only [impl_ReadTile.l0]; rw [if_neg (by omega), if_pos e]
   ·rw [if_pos e]; exact Ev.now _
  ·refine Ev.step (f := fun _ => some ([], false)) (fun k => ?_) ?_
   ·simp only [impl_ReadTile.l0]; rw [if_neg (by omega), if_neg e]
   ·rw [if_neg e]; exact Ev.now _
 | succ m ih =>
  intro i p out hi ho hp
  obtain ⟨x, b, c, d, l, r, z, e, hv⟩ := iscan_square hr key q large ex p hp
  have g1 : (i : Int) < (n : Int) := by omega
  have g2 : out.length < 2513169434916 := by omega
  refine Ev.step (fun k => by simp only [impl_ReadTile.l0]; rw [if_pos g1]) (Ev.bind e ?_)
  simp only [g2, if_true]
  rw [tileT]
  cases hs : squareR s key large ex p with
  | none =>
   rw [hs, outS] at hv
   cases z with
   | true => simp only [if_true]; exact Ev.now _
   | false => simp at hv
  | some v =>
   obtain ⟨a1, b1, c1, d1, l1, p'⟩ := v
   have hin := squareR_in hr hp hs
   rw [hs, outS] at hv
   cases z with
   | true => simp at hv
   | false =>
    simp only [Bool.false_eq_true, if_false, Prod.mk.injEq, and_true] at hv
    obtain ⟨rfl, rfl, rfl, rfl, rfl, rfl⟩ := hv
    have w2 : wrap64 ((i : Int) + 1) = ((i + 1 : Nat) : Int) := by rw [wrap_id (by omega) (by omega)]; omega
    simp only [Bool.false_eq_true, if_false, w2]
    exact ih (i + 1) p' _ (by omega) (by rw [List.length_append]; simp; omega) hin.2
theorem stile_loop {s : ByteArray} (hr : RowR s) (key : Bool) (q : Int) (large ex : Bool) (n : Nat) (hn : n ≤ 64) (m : Nat) : ∀ (i p : Nat) (out : List S63), i + m = n → out.length = i → p ≤ s.size → Ev (fun k => spec_ReadTile.l0 k s (p : Int) (n : Int) out (i : Int) key q large ex) (tileT s key large ex m p out) := by
 induction m with
 | zero =>
  intro i p out hi ho hp
  rw [tileT]
  by_cases e : (p : Int) = (s.size : Int)
  ·refine Ev.step (f := fun _ => some (out, true)) (fun k => ?_) ?_
   ·simp only [spec_ReadTile.l0]; rw [if_neg (by omega), if_pos e]
   ·rw [if_pos e]; exact Ev.now _
  ·refine Ev.step (f := fun _ => some ([], false)) (fun k => ?_) ?_
   ·simp only [spec_ReadTile.l0]; rw [if_neg (by omega), if_neg e]
   ·rw [if_neg e]; exact Ev.now _
 | succ m ih =>
  intro i p out hi ho hp
  have e := sl15read_ev hr key q large ex p hp
  have g1 : (i : Int) < (n : Int) := by omega
  have g2 : out.length < 2513169434916 := by omega
  refine Ev.step (fun k => by simp only [spec_ReadTile.l0]; rw [if_pos g1]) (Ev.bind e ?_)
  rw [tileT]
  cases hs : squareR s key large ex p with
  | none => simp only [outS, Bool.false_eq_true, if_false]; exact Ev.now _
  | some v =>
   obtain ⟨a1, b1, c1, d1, l1, p'⟩ := v
   have hin := squareR_in hr hp hs
   have w2 : wrap64 ((i : Int) + 1) = ((i + 1 : Nat) : Int) := by rw [wrap_id (by omega) (by omega)]; omega
   simp only [outS, if_true, g2, w2]
   exact ih (i + 1) p' _ (by omega) (by rw [List.length_append]; simp; omega) hin.2
theorem readtile_ev (s : ByteArray) (a n : Int) (key : Bool) (q : Int) (large ex : Bool) : Ev (fun k => impl_ReadTile.f k s a n key q large ex) (tileV s a n key q large ex) := by
 have hbad : ∀ (x : List S63) (p : Int) (z : Bool), Ev (fun k => impl_ReadTile.j0 k s n [] true key q large ex s p z) ([], false) := fun x p z => Ev.step (f := fun _ => some ([], false)) (fun k => by simp only [impl_ReadTile.j0]; rfl) (Ev.now _)
 unfold impl_ReadTile.f tileV
 refine Ev.bind (opened_ev s a) ?_
 simp only [within_eq, cond_val, Option.bind_some]
 by_cases c : 1 ≤ n ∧ n ≤ 64
 ·simp only [decide_eq_true c, if_true]
  simp only [c, and_self, and_true]
  cases hc : condB q large ex with
  | false => simp only [Bool.not_false, Bool.false_eq_true, and_false, if_false]; exact hbad [] _ _
  | true =>
   obtain ⟨m, rfl⟩ := Int.eq_ofNat_of_zero_le (show 0 ≤ n by omega)
   simp only [Bool.not_true, and_true]
   refine Ev.step (fun k => by simp only [impl_ReadTile.j0]; rw [if_neg (show ¬ (false = true) by decide)]) ?_
   cases hB : openB s a with
   | false =>
    obtain ⟨x, l, e⟩ := iscan_square_bad s a key q large ex
    have g1 : (0 : Int) < (m : Int) := by omega
    have g2 : ([] : List S63).length < 2513169434916 := by decide
    simp only [Bool.not_false, Bool.false_eq_true, if_false]
    refine Ev.step (fun k => by simp only [impl_ReadTile.l0]; rw [if_pos g1]) (Ev.bind e ?_)
    simp only [g2, if_true]
    exact Ev.now _
   | true =>
    obtain ⟨hr, h0, h1⟩ := openB_good hB
    obtain ⟨p, rfl⟩ := Int.eq_ofNat_of_zero_le h0
    simp only [Bool.not_true, if_true, Int.toNat_natCast]
    exact itile_loop hr key q large ex m (by omega) m 0 p [] (by omega) rfl (by omega)
 ·simp only [decide_eq_false c, Bool.false_eq_true, if_false]
  rw [if_neg (fun h => c h.2.2)]
  exact hbad [] _ _
theorem sreadtile_ev (s : ByteArray) (a n : Int) (key : Bool) (q : Int) (large ex : Bool) : Ev (fun k => spec_ReadTile.f k s a n key q large ex) (tileV s a n key q large ex) := by
 have hbad : Ev (fun k => spec_ReadTile.j0 k s a n [] true key q large ex) ([], false) := Ev.step (f := fun _ => some ([], false)) (fun k => by simp only [spec_ReadTile.j0]; rfl) (Ev.now _)
 unfold spec_ReadTile.f tileV
 simp only [Option.bind_some]
 refine Ev.bind (srow_ev s) ?_
 cases hR : rowB s with
 | false =>
  have hB : openB s a = false := by unfold openB; rw [hR]; rfl
  simp only [hB, Bool.false_eq_true, if_false, false_and]
  exact hbad
 | true =>
  by_cases c0 : 0 ≤ a ∧ a ≤ (s.size : Int)
  ·have hB : openB s a = true := by unfold openB; rw [hR, decide_eq_true c0]; rfl
   obtain ⟨hr, h0, h1⟩ := openB_good hB
   obtain ⟨p, rfl⟩ := Int.eq_ofNat_of_zero_le h0
   simp only [hB, if_true, in_eq, Option.bind_some, decide_eq_true c0, true_and, Int.toNat_natCast, scond_val]
   cases condB q large ex with
   | false => simp only [Bool.false_eq_true, if_false, false_and]; exact hbad
   | true =>
    by_cases c : 1 ≤ n ∧ n ≤ 64
    ·obtain ⟨m, rfl⟩ := Int.eq_ofNat_of_zero_le (show 0 ≤ n by omega)
     simp only [if_true, decide_eq_true c, Bool.not_true, true_and]
     rw [if_pos c]
     refine Ev.step (fun k => by simp only [spec_ReadTile.j0]; rw [if_neg (show ¬ (false = true) by decide)]) ?_
     exact stile_loop hr key q large ex m (by omega) m 0 p [] (by omega) rfl (by omega)
    ·simp only [if_true, decide_eq_false c, Bool.not_false, true_and]
     rw [if_neg c]
     exact hbad
  ·have hB : openB s a = false := by unfold openB; rw [decide_eq_false c0, Bool.and_false]
   simp only [hB, if_true, in_eq, Option.bind_some, decide_eq_false c0, Bool.false_eq_true, if_false, false_and]
   exact hbad
/-- All of it marked, from a on. -/
def markS : List S63 → Int → List S63
 | [], _ => []
 | x :: xs, a => ⟨a, a + 1, a + 2, a + 3, marks x.f4.length (a + 4)⟩ :: markS xs (a + 4 + (x.f4.length : Int))
def endS : List S63 → Int → Int
 | [], a => a
 | x :: xs, a => endS xs (a + 4 + (x.f4.length : Int))
theorem endS_ge (xs : List S63) : ∀ a, a ≤ endS xs a := by
 induction xs with
 | nil => intro a; exact Int.le_refl _
 | cons x xs ih => intro a; have := ih (a + 4 + (x.f4.length : Int)); rw [endS]; omega
theorem set_mid (pre xs : List S63) (x y : S63) : (pre ++ x :: xs).set (pre.length : Int).toNat y = pre ++ y :: xs := by simp
theorem rd_mid (pre xs : List S63) (y : S63) : rd_T63 (pre ++ y :: xs) (pre.length : Int) = y := by unfold rd_T63; simp
theorem markS_loop (xs : List S63) : ∀ (pre : List S63) (a : Int), pre.length + xs.length ≤ 64 → (∀ x ∈ xs, x.f4.length ≤ 64) → 0 ≤ a → a + 100 * (xs.length : Int) ≤ 1000000 →
  Ev (fun k => laws_markSquareS.l0 k (pre ++ xs) a (pre.length : Int)) (endS xs a, pre ++ markS xs a) := by
 induction xs with
 | nil =>
  intro pre a hl hx h0 h1
  refine Ev.step (f := fun _ => some (a, pre ++ [])) (fun k => ?_) (Ev.now _)
  simp only [laws_markSquareS.l0]
  rw [if_neg (show ¬ ((pre.length : Int) < ((pre ++ ([] : List S63)).length : Int)) by rw [List.append_nil]; omega)]
 | cons x xs ih =>
  intro pre a hl hx h0 h1
  rw [List.length_cons] at hl h1
  have hx0 := hx x (List.mem_cons_self ..)
  have e := mark_ev x.f4 (a + 4) (by omega) (by omega) (by omega)
  have g1 : (pre.length : Int) < ((pre ++ x :: xs).length : Int) := by rw [List.length_append, List.length_cons]; omega
  have g2 : (0 : Int) ≤ (pre.length : Int) := by omega
  have w1 : wrap64 (a + 1) = a + 1 := wrap_id (by omega) (by omega)
  have w2 : wrap64 (a + 1 + 1) = a + 2 := by rw [wrap_id (by omega) (by omega)]; omega
  have w3 : wrap64 (a + 2 + 1) = a + 3 := by rw [wrap_id (by omega) (by omega)]; omega
  have w4 : wrap64 (a + 3 + 1) = a + 4 := by rw [wrap_id (by omega) (by omega)]; omega
  have w5 : wrap64 ((pre.length : Int) + 1) = ((pre.length + 1 : Nat) : Int) := by rw [wrap_id (by omega) (by omega)]; omega
  refine Ev.step (fun k => by simp only [laws_markSquareS.l0, Option.bind_some, set_mid, rd_mid, w1, w2, w3, w4, w5]; rw [if_pos g1, if_pos g2]) (Ev.bind e ?_)
  have h := ih (pre ++ [⟨a, a + 1, a + 2, a + 3, marks x.f4.length (a + 4)⟩]) (a + 4 + (x.f4.length : Int)) (by rw [List.length_append]; simp; omega) (fun y hy => hx y (List.mem_cons_of_mem _ hy)) (by omega) (by omega)
  rw [List.append_assoc, List.append_assoc, List.length_append] at h
  exact h
theorem heldS_loop (xs : List S63) : ∀ (pre : List S63) (a : Int), pre.length + xs.length ≤ 64 → (∀ x ∈ xs, x.f4.length ≤ 64) → 0 ≤ a → a + 100 * (xs.length : Int) ≤ 1000000 →
  Ev (fun k => laws_heldSquareS.l0 k (pre ++ markS xs a) a (pre.length : Int)) (endS xs a) := by
 induction xs with
 | nil =>
  intro pre a hl hx h0 h1
  rw [show pre ++ markS [] a = pre from List.append_nil pre]
  refine Ev.step (f := fun _ => some a) (fun k => ?_) (Ev.now _)
  simp only [laws_heldSquareS.l0]
  rw [if_neg (by omega)]
 | cons x xs ih =>
  intro pre a hl hx h0 h1
  rw [List.length_cons] at hl h1
  have hx0 := hx x (List.mem_cons_self ..)
  have e := held_ev x.f4.length (a + 4) (by omega) (by omega) (by omega)
  rw [markS]
  have g1 : (pre.length : Int) < ((pre ++ (⟨a, a + 1, a + 2, a + 3, marks x.f4.length (a + 4)⟩ : S63) :: markS xs (a + 4 + (x.f4.length : Int))).length : Int) := by rw [List.length_append, List.length_cons]; omega
  have g2 : (0 : Int) ≤ (pre.length : Int) := by omega
  have w1 : wrap64 (a + 1) = a + 1 := wrap_id (by omega) (by omega)
  have w2 : wrap64 (a + 1 + 1) = a + 2 := by rw [wrap_id (by omega) (by omega)]; omega
  have w3 : wrap64 (a + 2 + 1) = a + 3 := by rw [wrap_id (by omega) (by omega)]; omega
  have w4 : wrap64 (a + 3 + 1) = a + 4 := by rw [wrap_id (by omega) (by omega)]; omega
  have w5 : wrap64 ((pre.length : Int) + 1) = ((pre.length + 1 : Nat) : Int) := by rw [wrap_id (by omega) (by omega)]; omega
  have n2 : ¬ (a + 4 + (x.f4.length : Int) < 0) := by omega
  refine Ev.step (fun k => by simp only [laws_heldSquareS.l0, rd_mid, w1, w2, w3, w4, w5, if_true]; rw [if_pos g1, if_pos g2]) (Ev.bind e ?_)
  simp only [n2, if_false]
  have h := ih (pre ++ [⟨a, a + 1, a + 2, a + 3, marks x.f4.length (a + 4)⟩]) (a + 4 + (x.f4.length : Int)) (by rw [List.length_append]; simp; omega) (fun y hy => hx y (List.mem_cons_of_mem _ hy)) (by omega) (by omega)
  rw [List.append_assoc, List.length_append] at h
  exact h
theorem eqS_self (xs : List S63) (hl : xs.length ≤ 64) (hx : ∀ x ∈ xs, x.f4.length ≤ 64) : Ev (fun k => laws_eqSquareS.f k xs xs) true := by
 have H : ∀ i, i ≤ xs.length → Ev (fun k => laws_eqSquareS.l0 k xs xs (i : Int)) true := by
  refine down xs.length ?_ ?_
  ·refine Ev.step (f := fun _ => some true) (fun k => ?_) (Ev.now _)
   simp only [laws_eqSquareS.l0]
   rw [if_neg (by omega)]
  ·intro i hi h
   have hm : (rd_T63 xs (i : Int)).f4.length ≤ 64 := by
    have : rd_T63 xs (i : Int) = xs[i] := by unfold rd_T63; rw [Int.toNat_natCast, List.getD_eq_getElem?_getD, List.getElem?_eq_getElem hi]; rfl
    rw [this]; exact hx _ (List.getElem_mem _)
   have e0 := eqSelf_ev (rd_T63 xs (i : Int)).f4 (by omega)
   have e : Ev (fun k => laws_eqSquare.f k (rd_T63 xs (i : Int)).f0 (rd_T63 xs (i : Int)).f1 (rd_T63 xs (i : Int)).f2 (rd_T63 xs (i : Int)).f3 (rd_T63 xs (i : Int)).f4 (rd_T63 xs (i : Int)).f0 (rd_T63 xs (i : Int)).f1 (rd_T63 xs (i : Int)).f2 (rd_T63 xs (i : Int)).f3 (rd_T63 xs (i : Int)).f4) true := by
    unfold laws_eqSquare.f
    simp only [if_true]
    refine Ev.bind e0 ?_
    simp only [if_true]
    exact Ev.now _
   have w2 : wrap64 ((i : Int) + 1) = ((i + 1 : Nat) : Int) := by rw [wrap_id (by omega) (by omega)]; omega
   refine Ev.step (fun k => by simp only [laws_eqSquareS.l0, w2]; rw [if_pos (by omega), if_pos (by omega), if_pos (by omega)]) (Ev.bind e ?_)
   simp only [if_true]
   exact h
 unfold laws_eqSquareS.f
 simp only [if_true]
 exact H 0 (by omega)
theorem FnExactReadTile : laws_FnExactReadTile.Pure := by
 intro s a n c0 q large ex
 intros
 refine Ev.rounds ?_
 unfold laws_FnExactReadTile.f
 by_cases c : (s.size : Int) > 1048576
 ·simp only [c, if_true]; exact Ev.now _
 ·simp only [c, if_false, laws_toCond.f, Option.bind_some]
  have hS := sreadtile_ev s a n c0 q large ex
  have hI := readtile_ev s a n c0 q large ex
  have hin := tileV_in s a n c0 q large ex
  generalize tileV s a n c0 q large ex = v at hS hI hin
  obtain ⟨v, b⟩ := v
  have hl := hin.1
  have hx := hin.2
  simp only at hl hx
  have hE := eqS_self v hl hx
  have hM : Ev (fun k => laws_markSquareS.f k v 1) (endS v 1, markS v 1) := by unfold laws_markSquareS.f; exact markS_loop v [] 1 (by simp; omega) hx (by omega) (by omega)
  have hH : Ev (fun k => laws_heldSquareS.f k (markS v 1) 1) (endS v 1) := by unfold laws_heldSquareS.f; exact heldS_loop v [] 1 (by simp; omega) hx (by omega) (by omega)
  have n2 : ¬ (endS v 1 < 0) := by have := endS_ge v 1; omega
  repeat' (first
   | exact Ev.now _
   | (refine Ev.bind (by assumption) ?_)
   | (simp only [if_true, if_false, n2, bne_self_eq_false, Bool.false_eq_true])
   | (refine Ev.step (fun k => by simp only [laws_FnExactReadTile.j0, laws_toCond.f, Option.bind_some]; rfl) ?_)
   | (refine Ev.step (fun k => by simp only [laws_FnExactReadTile.j1]; rfl) ?_))
end Go.Proofs.Ytnaccgommclhaaa.Pure