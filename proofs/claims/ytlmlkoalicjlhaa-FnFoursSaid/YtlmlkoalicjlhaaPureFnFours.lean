/- For all codes: turns of four of drawn numbers go with sums, the first one is the sum of all, and of one number alone all sixteen come back. The only condition is the row's own bound of the code's length. -/
import Derived.Test.YtlmlkoalicjlhaaQFnFoursx5
namespace Go.Proofs.Ytlmlkoalicjlhaa.Pure
open Go.RowKit Go.Proofs.Ytlmlkoalicjlhaa.QFnFours Go.Proofs.YtlmlkoalicjlhaaW.PrintWords Go.Proofs.YtlmlkoalicjlhaaW.PrintLast Go.Proofs.YtlmlkoalicjlhaaW.PrintMore Go.Proofs.YtlmlkoalicjlhaaV
set_option linter.unusedVariables false
set_option linter.unusedSimpArgs false

theorem wrap_id {x : Int} (h0 : -9223372036854775808 ≤ x) (h1 : x ≤ 9223372036854775807) : wrap64 x = x := by
  unfold wrap64
  omega
theorem wf64 {n : Int} (h : (Lit.int .i64 n).wf = true) : -9223372036854775808 ≤ n ∧ n ≤ 9223372036854775807 := by
  simp [Lit.wf, IntKind.min, IntKind.max, IntKind.signed, IntKind.bits] at h
  omega
theorem wfu8 {n : Int} (h : (Lit.int .u8 n).wf = true) : 0 ≤ n ∧ n ≤ 255 := by
  simp [Lit.wf, IntKind.min, IntKind.max, IntKind.signed, IntKind.bits] at h
  omega
theorem within_eq (a b c : Int) : impl_within.f a b c = some (decide (b ≤ a ∧ a ≤ c)) := by
  unfold impl_within.f
  by_cases h : a ≥ b
  · rw [if_pos h]; congr 1; rw [decide_eq_decide]; omega
  · rw [if_neg h]; congr 1; symm; rw [decide_eq_false_iff_not]; omega

theorem down {P : Nat → Prop} (n : Nat) (h0 : P n) (hs : ∀ i, i < n → P (i + 1) → P i) : ∀ i, i ≤ n → P i := by
  intro i hi
  obtain ⟨d, hd⟩ : ∃ d, d = n - i := ⟨_, rfl⟩
  induction d generalizing i with
  | zero =>
    have : i = n := by omega
    subst this; exact h0
  | succ d ih => exact hs i (by omega) (ih (i + 1) (by omega) (by omega))
theorem rd_nat (l : List Int) (i : Nat) (h : i < l.length) : rd l (i : Int) = l[i] := by
  unfold rd
  rw [List.getD_eq_getElem?_getD, Int.toNat_natCast, List.getElem?_eq_getElem h]; rfl
theorem cast1 (i : Nat) : ((i : Nat) : Int) + 1 = ((i + 1 : Nat) : Int) := rfl
theorem mix_set {α : Type} (l z : List α) (i : Nat) (hi : i < l.length) (hz : i < z.length) : (l.take i ++ z.drop i).set i l[i] = l.take (i + 1) ++ z.drop (i + 1) := by
  rw [List.set_append_right _ _ (by simp; omega)]
  rw [show i - (l.take i).length = 0 by simp; omega]
  rw [List.drop_eq_getElem_cons hz, List.set_cons_zero, List.take_succ_eq_append_getElem hi, List.append_assoc]; rfl
theorem mix_length {α : Type} (l z : List α) (i : Nat) (h : l.length = z.length) (hi : i ≤ l.length) : (l.take i ++ z.drop i).length = l.length := by
  simp; omega
theorem mix_end {α : Type} (l z : List α) (h : l.length = z.length) : l.take l.length ++ z.drop l.length = l := by
  rw [List.take_length, h, List.drop_length, List.append_nil]
theorem mix_zero {α : Type} (l z : List α) : l.take 0 ++ z.drop 0 = z := by simp
theorem drop_cons {α : Type} {l : List α} {i : Nat} (h : i < l.length) : l.drop i = l[i] :: l.drop (i + 1) := List.drop_eq_getElem_cons h
/-- All numbers of a list are from lo to hi. -/
def allB (lo hi : Int) (l : List Int) : Bool := l.all fun x => decide (lo ≤ x ∧ x ≤ hi)
theorem allB_cons (lo hi x : Int) (l : List Int) : allB lo hi (x :: l) = (decide (lo ≤ x ∧ x ≤ hi) && allB lo hi l) := rfl
theorem allB_iff {lo hi : Int} {l : List Int} : allB lo hi l = true ↔ ∀ x ∈ l, lo ≤ x ∧ x ≤ hi := by
  unfold allB
  rw [List.all_eq_true]
  simp only [decide_eq_true_eq]
theorem areIn_ev (l : List Int) (n lo hi : Int) (hl : l.length ≤ 17592186043904) : Ev (fun k => impl_areIn.f k l n lo hi) (decide ((l.length : Int) = n) && allB lo hi l) := by
  have H : ∀ i, i ≤ l.length → Ev (fun k => impl_areIn.l0 k l n lo hi l (l.length : Int) (i : Int)) (decide ((l.length : Int) = n) && allB lo hi (l.drop i)) := by
    refine down l.length ?_ ?_
    · refine Ev.step (f := fun _ => some (decide ((l.length : Int) = n))) (fun k => ?_) ?_
      · simp only [impl_areIn.l0]
        rw [if_neg (by omega)]; congr 1
      · rw [List.drop_length]; simp only [allB, List.all_nil, Bool.and_true]; exact Ev.now _
    · intro i h1 h
      rw [drop_cons h1, allB_cons]
      by_cases c : lo ≤ l[i] ∧ l[i] ≤ hi
      · rw [decide_eq_true c, Bool.true_and]
        refine Ev.step (fun k => ?_) h
        simp only [impl_areIn.l0]
        rw [if_pos (by omega), if_pos (by omega), if_pos (by omega), rd_nat l i h1, within_eq, Option.bind_some, if_pos (decide_eq_true c), wrap_id (by omega) (by omega), cast1]
      · rw [decide_eq_false c, Bool.false_and, Bool.and_false]
        refine Ev.step (f := fun _ => some false) (fun k => ?_) (Ev.now _)
        simp only [impl_areIn.l0]
        rw [if_pos (by omega), if_pos (by omega), if_pos (by omega), rd_nat l i h1, within_eq, Option.bind_some, if_neg (by simpa using c)]
  exact H 0 (by omega)

/-- The numbers a, a + 1, .., n of them. -/
def marks : Nat → Int → List Int
  | 0, _ => []
  | n + 1, a => a :: marks n (a + 1)
theorem marks_length (n : Nat) : ∀ a, (marks n a).length = n := by
  induction n with
  | zero => intro a; rfl
  | succ n ih => intro a; simp [marks, ih]
theorem marks_get (n : Nat) : ∀ (a : Int) (i : Nat) (h : i < (marks n a).length), (marks n a)[i] = a + i := by
  induction n with
  | zero => intro a i h; simp [marks] at h
  | succ n ih =>
    intro a i h
    cases i with
    | zero => simp [marks]
    | succ i =>
      have := ih (a + 1) i (by simp [marks] at h; exact h)
      simp only [marks, List.getElem_cons_succ]
      rw [this]
      have e : ((i + 1 : Nat) : Int) = (i : Int) + 1 := rfl
      rw [e]; omega

def FoOk (x : List Int) : Prop := x.length = 16 ∧ allB (-1000) 1000 x = true
instance (x : List Int) : Decidable (FoOk x) := by unfold FoOk; infer_instance
theorem list16 (x : List Int) (h : x.length = 16) : ∃ a0 a1 a2 a3 a4 a5 a6 a7 a8 a9 a10 a11 a12 a13 a14 a15, x = [a0, a1, a2, a3, a4, a5, a6, a7, a8, a9, a10, a11, a12, a13, a14, a15] := by
  match x, h with
  | [a0, a1, a2, a3, a4, a5, a6, a7, a8, a9, a10, a11, a12, a13, a14, a15], _ => exact ⟨a0, a1, a2, a3, a4, a5, a6, a7, a8, a9, a10, a11, a12, a13, a14, a15, rfl⟩
theorem len_dec4 (l : List Int) (n : Nat) (m : Int) (h : m = (n : Int)) : decide ((l.length : Int) = m) = decide (l.length = n) := by rw [decide_eq_decide]; omega
theorem and_false4 {b : Bool} {p : Prop} [Decidable p] (h : ¬ (p ∧ b = true)) : (decide p && b) = false := by
  rw [Bool.eq_false_iff]; intro h'; rw [Bool.and_eq_true, decide_eq_true_eq] at h'; exact h h'
theorem turnedL_len (T x) : (turnedL T x).length = x.length := by simp [turnedL, colsT, rowsT, colT, rowT]
theorem Ev.from {α : Type} {f : Nat → Option α} {v : α} (n : Nat) (h : ∀ k, f (k + n) = some v) : Ev f v := by
  refine ⟨n, fun k hk => ?_⟩
  have e := h (k - n)
  rwa [Nat.sub_add_cancel hk] at e
theorem four_ev (x : List Int) (hx : x.length ≤ 17592186043904) : Ev (fun k => impl_Four.f k x) (if FoOk x then turnedL t4 x else []) := by
  unfold impl_Four.f
  refine Ev.bind (areIn_ev x 16 (-1000) 1000 hx) ?_
  rw [len_dec4 x 16 16 rfl]
  by_cases c : FoOk x
  · rw [if_pos c, decide_eq_true c.1, c.2]
    simp only [Bool.and_self, if_true]
    rw [if_pos c.1]
    exact Ev.now _
  · rw [if_neg c, and_false4 c]
    simp only [Bool.false_eq_true, if_false]; exact Ev.now _
theorem fout_len (x : List Int) : (if FoOk x then turnedL t4 x else []).length ≤ 16 := by
  by_cases c : FoOk x
  · rw [if_pos c, turnedL_len, c.1]; omega
  · rw [if_neg c]; simp

def down64 (x : Int) : Int := (x + 32) / 64
def settledL (l : List Int) : List Int := l.map down64
theorem settledL_len (l : List Int) : (settledL l).length = l.length := by simp [settledL]
theorem down_eq {x : Int} (h0 : -1000000000000 ≤ x) (h1 : x ≤ 1000000000000) :
    (if (64 : Int) = 0 then (none : Option Int) else (if (Int.tmod (wrap64 (x + 32)) 64) < 0 then (some (wrap64 ((wrap64 (Int.tdiv (wrap64 (x + 32)) 64)) - 1))) else (some (wrap64 (Int.tdiv (wrap64 (x + 32)) 64))))) = some (down64 x) := by
  rw [if_neg (by omega), wrap_id (x := x + 32) (by omega) (by omega)]
  unfold down64
  generalize hy : x + 32 = y
  have h2 : -1000000000100 ≤ y := by omega
  have h3 : y ≤ 1000000000100 := by omega
  clear hy h0 h1
  have hd : Int.tdiv y 64 * 64 + Int.tmod y 64 = y := Int.tdiv_mul_add_tmod y 64
  by_cases c : Int.tmod y 64 < 0
  · have hl : -64 < Int.tmod y 64 := by
      have := Int.lt_tmod_of_pos y (b := 64) (by omega)
      omega
    rw [if_pos c, wrap_id (x := Int.tdiv y 64) (by omega) (by omega), wrap_id (by omega) (by omega)]
    congr 1
    omega
  · have hl : Int.tmod y 64 < 64 := Int.tmod_lt_of_pos y (by omega)
    rw [if_neg c, wrap_id (x := Int.tdiv y 64) (by omega) (by omega)]
    congr 1
    omega
/-- A row that is settled up to i. -/
def setTo (l : List Int) (i : Nat) : List Int := (settledL l).take i ++ l.drop i
theorem setTo_len (l : List Int) (i : Nat) (h : i ≤ l.length) : (setTo l i).length = l.length := by
  unfold setTo
  rw [List.length_append, List.length_take, List.length_drop, settledL_len]
  omega
theorem setTo_rd (l : List Int) (i : Nat) (h : i < l.length) : rd (setTo l i) (i : Int) = l[i] := by
  unfold rd setTo
  rw [Int.toNat_natCast, List.getD_eq_getElem?_getD, List.getElem?_append_right (by rw [List.length_take, settledL_len]; omega), List.length_take, settledL_len, Nat.min_eq_left (by omega), Nat.sub_self, List.getElem?_drop, Nat.add_zero, List.getElem?_eq_getElem h]
  rfl
theorem setTo_set (l : List Int) (i : Nat) (h : i < l.length) : (setTo l i).set i (down64 l[i]) = setTo l (i + 1) := by
  have e : down64 l[i] = (settledL l)[i]'(by rw [settledL_len]; exact h) := by simp [settledL]
  rw [e]
  exact mix_set (settledL l) l i (by rw [settledL_len]; exact h) h
theorem setTo_end (l : List Int) : setTo l l.length = settledL l := by
  unfold setTo
  rw [List.drop_length, List.append_nil, List.take_of_length_le (by rw [settledL_len]; omega)]
theorem settled_ev (l : List Int) (hl : l.length ≤ 17592186043904) (hb : ∀ x ∈ l, -1000000000000 ≤ x ∧ x ≤ 1000000000000) : Ev (fun k => impl_settled.f k l) (settledL l) := by
  have H : ∀ i, i ≤ l.length → Ev (fun k => impl_settled.l0 k (setTo l i) (l.length : Int) (i : Int)) (settledL l) := by
    refine down l.length ?_ ?_
    · refine Ev.step (f := fun _ => some (settledL l)) (fun k => ?_) (Ev.now _)
      simp only [impl_settled.l0]
      rw [if_neg (by omega), setTo_end]
    · intro i hi h
      have hx := hb l[i] (List.getElem_mem _)
      refine Ev.step (fun k => ?_) h
      simp only [impl_settled.l0]
      rw [if_pos (by omega), if_pos (by omega), if_pos (by rw [setTo_len l i (by omega)]; omega), setTo_rd l i hi]
      unfold impl_floor.f
      rw [down_eq hx.1 hx.2, Option.bind_some, Int.toNat_natCast, setTo_set l i hi, wrap_id (by omega) (by omega), cast1]
  have h0 := H 0 (by omega)
  unfold impl_settled.f
  exact h0

def FbOk (x : List Int) : Prop := x.length = 16 ∧ allB (-10000000) 10000000 x = true
instance (x : List Int) : Decidable (FbOk x) := by unfold FbOk; infer_instance
def fbv (x : List Int) : List Int := if FbOk x then settledL (turnedL b4 x) else []
theorem fbv_len (x : List Int) : (fbv x).length ≤ 16 := by
  unfold fbv
  by_cases c : FbOk x
  · rw [if_pos c, settledL_len, turnedL_len, c.1]; omega
  · rw [if_neg c]; simp
theorem fl2_small {x M : Int} (hM : M ≤ 1000000000000) (h0 : -M ≤ x) (h1 : x ≤ M) : -M - 1 ≤ fl2 x ∧ fl2 x ≤ M := by
  unfold fl2
  have hd : Int.tdiv x 2 * 2 + Int.tmod x 2 = x := Int.tdiv_mul_add_tmod x 2
  have hl : -2 < Int.tmod x 2 := by have := Int.lt_tmod_of_pos x (b := 2) (by omega); omega
  have hr : Int.tmod x 2 < 2 := Int.tmod_lt_of_pos x (by omega)
  generalize Int.tmod x 2 = m at hd hl hr
  generalize Int.tdiv x 2 = q at hd
  split
  · rw [wrap_id (x := q) (by omega) (by omega), wrap_id (by omega) (by omega)]; omega
  · rw [wrap_id (x := q) (by omega) (by omega)]; omega
theorem b4_small {a b c d M : Int} (hM : M ≤ 200000000000) (ha : -M ≤ a ∧ a ≤ M) (hb : -M ≤ b ∧ b ≤ M) (hc : -M ≤ c ∧ c ≤ M) (hd : -M ≤ d ∧ d ≤ M) :
    (-(4 * M + 4) ≤ (b4 a b c d).1 ∧ (b4 a b c d).1 ≤ 4 * M + 4) ∧ (-(4 * M + 4) ≤ (b4 a b c d).2.1 ∧ (b4 a b c d).2.1 ≤ 4 * M + 4) ∧ (-(4 * M + 4) ≤ (b4 a b c d).2.2.1 ∧ (b4 a b c d).2.2.1 ≤ 4 * M + 4) ∧ (-(4 * M + 4) ≤ (b4 a b c d).2.2.2 ∧ (b4 a b c d).2.2.2 ≤ 4 * M + 4) := by
  have h1 := fl2_small (x := b) (M := M) (by omega) hb.1 hb.2
  have h2 := fl2_small (x := d) (M := M) (by omega) hd.1 hd.2
  unfold b4
  generalize fl2 b = p at h1
  generalize fl2 d = q at h2
  dsimp only
  rw [wrap_id (x := a + c) (by omega) (by omega), wrap_id (x := a - c) (by omega) (by omega), wrap_id (x := b + q) (by omega) (by omega), wrap_id (x := p - d) (by omega) (by omega)]
  rw [wrap_id (x := a + c + (b + q)) (by omega) (by omega), wrap_id (x := a - c + (p - d)) (by omega) (by omega), wrap_id (x := a - c - (p - d)) (by omega) (by omega), wrap_id (x := a + c - (b + q)) (by omega) (by omega)]
  omega
def InM (M : Int) (x : List Int) : Prop := ∀ v ∈ x, -M ≤ v ∧ v ≤ M
theorem rd_in {M : Int} {x : List Int} (hM : 0 ≤ M) (h : InM M x) (i : Int) : -M ≤ rd x i ∧ rd x i ≤ M := by
  unfold rd
  rw [List.getD_eq_getElem?_getD]
  cases e : x[i.toNat]? with
  | none => simp; omega
  | some v => exact h v (List.mem_of_getElem? e)
theorem set_in {M : Int} {x : List Int} (h : InM M x) (i : Nat) {v : Int} (hv : -M ≤ v ∧ v ≤ M) : InM M (x.set i v) := by
  intro u hu
  rcases List.mem_or_eq_of_mem_set hu with h1 | h1
  · exact h u h1
  · rw [h1]; exact hv
theorem grow_in {M N : Int} {x : List Int} (h : InM M x) (hN : M ≤ N) : InM N x := fun v hv => by have := h v hv; omega
theorem rowT_in {M : Int} {x : List Int} (hM : 0 ≤ M) (hM' : M ≤ 200000000000) (h : InM M x) (r : Nat) : InM (4 * M + 4) (rowT b4 x r) := by
  unfold rowT
  have s := b4_small hM' (rd_in hM h r) (rd_in hM h (r + 1 : Nat)) (rd_in hM h (r + 2 : Nat)) (rd_in hM h (r + 3 : Nat))
  exact set_in (set_in (set_in (set_in (grow_in h (by omega)) _ s.1) _ s.2.1) _ s.2.2.1) _ s.2.2.2
theorem colT_in {M : Int} {x : List Int} (hM : 0 ≤ M) (hM' : M ≤ 200000000000) (h : InM M x) (r : Nat) : InM (4 * M + 4) (colT b4 x r) := by
  unfold colT
  have s := b4_small hM' (rd_in hM h r) (rd_in hM h (r + 4 : Nat)) (rd_in hM h (r + 8 : Nat)) (rd_in hM h (r + 12 : Nat))
  exact set_in (set_in (set_in (set_in (grow_in h (by omega)) _ s.1) _ s.2.1) _ s.2.2.1) _ s.2.2.2
theorem turned_small {x : List Int} (h : FbOk x) : ∀ v ∈ turnedL b4 x, -1000000000000 ≤ v ∧ v ≤ 1000000000000 := by
  have h0 : InM 10000000 x := fun v hv => by have := allB_iff.1 h.2 v hv; omega
  have h1 := rowT_in (by omega) (by omega) h0 (4 * 0)
  have h2 := rowT_in (by omega) (by omega) h1 (4 * 1)
  have h3 := rowT_in (by omega) (by omega) h2 (4 * 2)
  have h4 := rowT_in (by omega) (by omega) h3 (4 * 3)
  have h5 := colT_in (by omega) (by omega) h4 0
  have h6 := colT_in (by omega) (by omega) h5 1
  have h7 := colT_in (by omega) (by omega) h6 2
  have h8 := colT_in (by omega) (by omega) h7 3
  exact grow_in h8 (by omega)
theorem fourback_ev (x : List Int) (hx : x.length ≤ 17592186043904) : Ev (fun k => impl_FourBack.f k x) (fbv x) := by
  unfold impl_FourBack.f fbv
  refine Ev.bind (areIn_ev x 16 (-10000000) 10000000 hx) ?_
  rw [len_dec4 x 16 16 rfl]
  by_cases c : FbOk x
  · rw [if_pos c, decide_eq_true c.1, c.2]
    simp only [Bool.and_self, if_true]
    simp only [if_pos c.1]
    exact Ev.bind (settled_ev _ (by rw [turnedL_len, c.1]; omega) (turned_small c)) (Ev.now _)
  · rw [if_neg c, and_false4 c]
    simp only [Bool.false_eq_true, if_false]; exact Ev.now _

theorem and_le (x : Int) (m : Nat) (hm : m < 9223372036854775808) : 0 ≤ Go.bits .and .i64 x (m : Int) ∧ Go.bits .and .i64 x (m : Int) ≤ (m : Int) := by
  have h : (BitVec.ofInt 64 x &&& BitVec.ofInt 64 (m : Int)).toNat ≤ m := by
    rw [BitVec.toNat_and]
    refine Nat.le_trans Nat.and_le_right ?_
    rw [BitVec.ofInt_natCast, BitVec.toNat_ofNat]
    exact Nat.mod_le _ _
  have e : Go.bits .and .i64 x (m : Int) = IntKind.i64.wrap (((BitVec.ofInt 64 x &&& BitVec.ofInt 64 (m : Int)).toNat : Nat) : Int) := rfl
  rw [e, IntKind.wrap_i64]
  omega

theorem rounds_ev {α : Type} {g : Nat → Option α} {r : α} (h : Ev g r) : ∃ k, g k = some r := h.rounds
theorem byte_at (b : List Int) (hb : b.length ≤ 140737488351232) (i h : Int) (h0 : 0 ≤ i) (h1 : i ≤ (b.length : Int)) :
    ∃ x i' h', spec_l01Byte.f b i h = some (x, i', h') ∧ 0 ≤ x ∧ x ≤ 255 ∧ 0 ≤ i' ∧ i' ≤ (b.length : Int) := by
  unfold spec_l01Byte.f
  by_cases c : i < (b.length : Int)
  · rw [if_pos c, if_pos h0]
    exact ⟨_, _, _, rfl, (and_le _ 255 (by decide)).1, (and_le _ 255 (by decide)).2, by rw [wrap_id (by omega) (by omega)]; omega, by rw [wrap_id (by omega) (by omega)]; omega⟩
  · rw [if_neg c]
    exact ⟨_, _, _, rfl, (and_le _ 255 (by decide)).1, (and_le _ 255 (by decide)).2, h0, h1⟩
theorem below_at (b : List Int) (hb : b.length ≤ 140737488351232) (i h n : Int) (h0 : 0 ≤ i) (h1 : i ≤ (b.length : Int)) (hn : 0 < n) :
    ∃ x i' h', spec_l01Below.f b i h n = some (x, i', h') ∧ 0 ≤ x ∧ x < n ∧ 0 ≤ i' ∧ i' ≤ (b.length : Int) := by
  unfold spec_l01Below.f
  rw [if_neg (by omega)]
  obtain ⟨x, i1, s1, e1, x0, x1, p1, q1⟩ := byte_at b hb i h h0 h1
  by_cases c : n ≤ 256
  · rw [if_pos c, e1, Option.bind_some, if_neg (by omega)]
    exact ⟨_, _, _, rfl, by simp only [Int.tmod_eq_emod_of_nonneg x0]; exact Int.emod_nonneg _ (by omega), by simp only [Int.tmod_eq_emod_of_nonneg x0]; exact Int.emod_lt_of_pos _ hn, p1, q1⟩
  · obtain ⟨y, i2, s2, e2, y0, y1, p2, q2⟩ := byte_at b hb i1 s1 p1 q1
    obtain ⟨z, i3, s3, e3, z0, z1, p3, q3⟩ := byte_at b hb i2 s2 p2 q2
    obtain ⟨w, i4, s4, e4, w0, w1, p4, q4⟩ := byte_at b hb i3 s3 p3 q3
    rw [if_neg c, e1, Option.bind_some]
    simp only []
    rw [e2, Option.bind_some]
    simp only []
    rw [e3, Option.bind_some]
    simp only []
    rw [e4, Option.bind_some, if_neg (by omega)]
    have hs : wrap64 (wrap64 (wrap64 (wrap64 (x * 16777216) + wrap64 (y * 65536)) + wrap64 (z * 256)) + w) = x * 16777216 + y * 65536 + z * 256 + w := by
      rw [wrap_id (x := x * 16777216) (by omega) (by omega), wrap_id (x := y * 65536) (by omega) (by omega), wrap_id (x := z * 256) (by omega) (by omega), wrap_id (x := x * 16777216 + y * 65536) (by omega) (by omega), wrap_id (x := x * 16777216 + y * 65536 + z * 256) (by omega) (by omega), wrap_id (by omega) (by omega)]
    refine ⟨_, _, _, rfl, ?_, ?_, p4, q4⟩
    · simp only [hs]; rw [Int.tmod_eq_emod_of_nonneg (by omega)]; exact Int.emod_nonneg _ (by omega)
    · simp only [hs]; rw [Int.tmod_eq_emod_of_nonneg (by omega)]; exact Int.emod_lt_of_pos _ hn
theorem below_any (b : List Int) (hb : b.length ≤ 140737488351232) (i h n : Int) (h0 : 0 ≤ i) (h1 : i ≤ (b.length : Int)) :
    ∃ x i' h', spec_l01Below.f b i h n = some (x, i', h') ∧ 0 ≤ x ∧ (0 < n → x < n) ∧ 0 ≤ i' ∧ i' ≤ (b.length : Int) := by
  by_cases hn : 0 < n
  · obtain ⟨x, i', h', e, x0, x1, p, q⟩ := below_at b hb i h n h0 h1 hn
    exact ⟨x, i', h', e, x0, fun _ => x1, p, q⟩
  · exact ⟨0, i, h, by unfold spec_l01Below.f; rw [if_pos (by omega)], by omega, fun h => absurd h hn, h0, h1⟩
theorem new_loop (l : List Int) (hl : l.length ≤ 140737488351232) (d : Nat) : ∀ h i : Int, 0 ≤ i → (l.length : Int) - i = d → ∃ h', Ev (fun k => spec_l01New.l0 k l h i) (l, 0, h') := by
  induction d with
  | zero =>
    intro h i h0 hd
    exact ⟨h, Ev.step (f := fun _ => some (l, 0, h)) (fun k => by simp only [spec_l01New.l0]; rw [if_neg (by omega)]) (Ev.now _)⟩
  | succ d ih =>
    intro h i h0 hd
    by_cases c : i < 4000
    · obtain ⟨h', e⟩ := ih (Go.bits .and .i64 (wrap64 ((wrap64 ((wrap64 (h * 131)) + (wrap64 (rd l i)))) + 7)) 1073741823) (i + 1) (by omega) (by omega)
      refine ⟨h', Ev.step (fun k => ?_) e⟩
      simp only [spec_l01New.l0]
      rw [if_pos (by omega), if_pos c, if_pos h0, wrap_id (x := i + 1) (by omega) (by omega)]
    · exact ⟨h, Ev.step (f := fun _ => some (l, 0, h)) (fun k => by simp only [spec_l01New.l0]; rw [if_pos (by omega), if_neg c]) (Ev.now _)⟩
theorem new_ev (l : List Int) (hl : l.length ≤ 140737488351232) : ∃ h, Ev (fun k => spec_l01New.f k l) (l, 0, h) := by
  obtain ⟨h, e⟩ := new_loop l hl l.length (wrap64 (94701 + (l.length : Int))) 0 (by omega) (by omega)
  exact ⟨h, e⟩
theorem rd_mem {l : List Int} {P : Int → Prop} (h : ∀ x ∈ l, P x) (i : Int) (h0 : 0 ≤ i) (h1 : i < (l.length : Int)) : P (rd l i) := by
  unfold rd
  rw [List.getD_eq_getElem?_getD, List.getElem?_eq_getElem (by omega)]
  exact h _ (List.getElem_mem _)
theorem places_loop (b : List Int) (hb : b.length ≤ 140737488351232) (d : Nat) : ∀ (out : List Int) (j i h : Int), 0 ≤ j → 12 - j = (d : Int) → (out.length : Int) = j → (∀ x ∈ out, 0 ≤ x ∧ x < 10000) → 0 ≤ i → i ≤ (b.length : Int) →
    ∃ p, Ev (fun k => spec_DrawPlaces.l0 k out j b i h) p ∧ p.length = 12 ∧ ∀ x ∈ p, 0 ≤ x ∧ x < 10000 := by
  induction d with
  | zero =>
    intro out j i h hj hd ho hx h0 h1
    exact ⟨out, Ev.step (f := fun _ => some out) (fun k => by simp only [spec_DrawPlaces.l0]; rw [if_neg (by omega)]) (Ev.now _), by omega, hx⟩
  | succ d ih =>
    intro out j i h hj hd ho hx h0 h1
    obtain ⟨x, i', h', e, x0, x1, p, q⟩ := below_at b hb i h 10000 h0 h1 (by omega)
    obtain ⟨r, er, hr⟩ := ih (out ++ [x]) (j + 1) i' h' (by omega) (by omega) (by simp; omega) (by
      intro y hy
      rcases List.mem_append.1 hy with hy | hy
      · exact hx y hy
      · simp at hy; subst hy; exact ⟨x0, x1⟩) p q
    refine ⟨r, Ev.step (fun k => ?_) er, hr⟩
    simp only [spec_DrawPlaces.l0]
    rw [if_pos (by omega), e, Option.bind_some, if_pos (by omega), wrap_id (x := j + 1) (by omega) (by omega)]
theorem places_ev (l : List Int) (hl : l.length ≤ 140737488351232) : ∃ p, Ev (fun k => spec_DrawPlaces.f k l) p ∧ p.length = 12 ∧ ∀ x ∈ p, 0 ≤ x ∧ x < 10000 := by
  obtain ⟨h, e⟩ := new_ev l hl
  obtain ⟨x, i', h', e1, x0, x1, p0, p1⟩ := byte_at l hl 0 h (by omega) (by omega)
  obtain ⟨p, ep, hp⟩ := places_loop l hl 12 [] 0 i' h' (by omega) (by omega) rfl (by simp) p0 p1
  refine ⟨p, ?_, hp⟩
  unfold spec_DrawPlaces.f
  refine Ev.bind e ?_
  simp only [e1, Option.bind_some]
  exact ep

theorem once_at (b : List Int) (hb : b.length ≤ 140737488351232) (i h n : Int) (h0 : 0 ≤ i) (h1 : i ≤ (b.length : Int)) (hn : 0 < n) :
    ∃ x i' h', spec_l01Once.f b i h n = some (x, i', h') ∧ 0 ≤ i' ∧ i' ≤ (b.length : Int) := by
  obtain ⟨x, i', h', e, _, _, p, q⟩ := below_at b hb i h n h0 h1 hn
  exact ⟨_, _, _, by unfold spec_l01Once.f; rw [e]; rfl, p, q⟩

/-- What a right picture is. -/
def PicR (w h : Int) (d : ByteArray) : Prop := (1 ≤ w ∧ w ≤ 256) ∧ (1 ≤ h ∧ h ≤ 256) ∧ (d.size : Int) = w * h
instance (w h : Int) (d : ByteArray) : Decidable (PicR w h d) := by unfold PicR; infer_instance
theorem small_mul {w h a b : Int} (h0 : 0 ≤ w) (h1 : w ≤ a) (h2 : 0 ≤ h) (h3 : h ≤ b) : 0 ≤ w * h ∧ w * h ≤ a * b := by
  refine ⟨Int.mul_nonneg h0 h2, ?_⟩
  exact Int.mul_le_mul h1 h3 h2 (by omega)

theorem brought_ev (n lo hi : Int) : Ev (fun k => spec_Brought.f k n lo hi) (mx lo (mn n hi)) := by
  unfold spec_Brought.f
  unfold mx mn
  by_cases c : hi < lo
  · refine Ev.congr (fun k => by rw [if_pos c]) (Ev.step (f := fun _ => some lo) (fun k => by simp only [spec_Brought.j0]; rfl) ?_)
    have e : (if lo < (if hi < n then hi else n) then (if hi < n then hi else n) else lo) = lo := by repeat' split <;> omega
    rw [e]; exact Ev.now _
  · by_cases c2 : n < lo
    · refine Ev.congr (fun k => by rw [if_neg c, show decide (n < lo) = true from decide_eq_true c2]) (Ev.step (f := fun _ => some lo) (fun k => by simp only [spec_Brought.j0]; rfl) ?_)
      have e : (if lo < (if hi < n then hi else n) then (if hi < n then hi else n) else lo) = lo := by repeat' split <;> omega
      rw [e]; exact Ev.now _
    · refine Ev.congr (fun k => by rw [if_neg c, show decide (n < lo) = false from decide_eq_false c2]) (Ev.step (f := fun _ => if n > hi then some hi else some n) (fun k => by simp only [spec_Brought.j0]; rfl) ?_)
      by_cases c3 : n > hi
      · have e : (if lo < (if hi < n then hi else n) then (if hi < n then hi else n) else lo) = hi := by repeat' split <;> omega
        rw [e]; simp only [c3, if_true]; exact Ev.now _
      · have e : (if lo < (if hi < n then hi else n) then (if hi < n then hi else n) else lo) = n := by repeat' split <;> omega
        rw [e]; simp only [c3, if_false]; exact Ev.now _
theorem mx0 {n hi : Int} (h : 0 ≤ hi) : 0 ≤ mx 0 (mn n hi) ∧ mx 0 (mn n hi) ≤ hi := by unfold mx mn; repeat' split <;> omega
def dotv (w h : Int) (d : ByteArray) (x y : Int) : Int := bt d (mx 0 (mn y (h - 1)) * w + mx 0 (mn x (w - 1)))
theorem spot {w h X Y : Int} (hw : 1 ≤ w) (hX : 0 ≤ X ∧ X ≤ w - 1) (hY : 0 ≤ Y ∧ Y ≤ h - 1) : 0 ≤ Y * w ∧ 0 ≤ Y * w + X ∧ Y * w + X < w * h := by
  have h1 : 0 ≤ Y * w := Int.mul_nonneg hY.1 (by omega)
  have h2 : Y * w ≤ (h - 1) * w := Int.mul_le_mul_of_nonneg_right hY.2 (by omega)
  have h3 : (h - 1) * w = w * h - w := by rw [Int.sub_mul, Int.one_mul, Int.mul_comm]
  omega
theorem dotv_range (w h : Int) (d : ByteArray) (x y : Int) : 0 ≤ dotv w h d x y ∧ dotv w h d x y ≤ 255 := bt_range _ _

theorem diffs_loop (b : List Int) (hb : b.length ≤ 140737488351232) (n m : Int) (hn : n ≤ 1000000) (hm : 1 ≤ m ∧ m ≤ 100000) (d : Nat) : ∀ (out : List Int) (i p h : Int), 0 ≤ i → n - i = (d : Int) → (out.length : Int) = i → (∀ y ∈ out, -m ≤ y ∧ y ≤ m) → 0 ≤ p → p ≤ (b.length : Int) →
    ∃ r, Ev (fun k => spec_DrawDiffs.l0 k n m out i b p h) r ∧ (r.length : Int) = n ∧ ∀ y ∈ r, -m ≤ y ∧ y ≤ m := by
  induction d with
  | zero =>
    intro out i p h hi hd ho hx h0 h1
    exact ⟨out, Ev.step (f := fun _ => some out) (fun k => by simp only [spec_DrawDiffs.l0]; rw [if_neg (by omega)]) (Ev.now _), by omega, hx⟩
  | succ d ih =>
    intro out i p h hi hd ho hx h0 h1
    obtain ⟨z, p1, h1', e1, a0, a1⟩ := once_at b hb p h 3 h0 h1 (by omega)
    have g : out.length < 17592186044416 := by omega
    have ei : wrap64 (i + 1) = i + 1 := wrap_id (by omega) (by omega)
    have em : wrap64 (wrap64 (2 * m) + 1) = 2 * m + 1 := by rw [wrap_id (x := 2 * m) (by omega) (by omega), wrap_id (by omega) (by omega)]
    have en : wrap64 (-m) = -m := wrap_id (by omega) (by omega)
    cases z with
    | true =>
      obtain ⟨y, p2, h2', e2, y0, y1, b0, b1⟩ := below_at b hb p1 h1' (2 * m + 1) a0 a1 (by clear ei em en; omega)
      have ey : wrap64 (y - m) = y - m := by clear ei em en; exact wrap_id (by omega) (by omega)
      obtain ⟨r, er, hr⟩ := ih (out ++ [y - m]) (i + 1) p2 h2' (by clear ei em en ey; omega) (by clear ei em en ey; omega) (by clear ei em en ey; rw [List.length_append]; simp; omega) (by
        clear ei em en ey
        intro w hw
        rcases List.mem_append.1 hw with hw | hw
        · exact hx w hw
        · simp at hw; omega) b0 b1
      refine ⟨r, Ev.step (fun k => ?_) er, hr⟩
      simp only [spec_DrawDiffs.l0]
      rw [if_pos (by clear ei em en ey; omega), e1, Option.bind_some, if_pos rfl, em, e2, Option.bind_some, if_pos g, ey, ei]
    | false =>
      obtain ⟨y, p2, h2', e2, y0, y1, b0, b1⟩ := below_at b hb p1 h1' 21 a0 a1 (by omega)
      have ey : wrap64 (y - 10) = y - 10 := by clear ei em en; exact wrap_id (by omega) (by omega)
      have hbr := brought_ev (y - 10) (-m) m
      have hv : -m ≤ mx (-m) (mn (y - 10) m) ∧ mx (-m) (mn (y - 10) m) ≤ m := by
        clear ei em en ey
        unfold mx mn
        repeat' split
        all_goals omega
      generalize mx (-m) (mn (y - 10) m) = v at hbr hv
      obtain ⟨r, er, hr⟩ := ih (out ++ [v]) (i + 1) p2 h2' (by clear ei em en ey; omega) (by clear ei em en ey; omega) (by clear ei em en ey; rw [List.length_append]; simp; omega) (by
        clear ei em en ey
        intro w hw
        rcases List.mem_append.1 hw with hw | hw
        · exact hx w hw
        · simp at hw; omega) b0 b1
      refine ⟨r, Ev.step (f := fun k => (spec_Brought.f k (y - 10) (-m) m).bind fun t => if out.length < 17592186044416 then spec_DrawDiffs.l0 k n m (out ++ [t]) (i + 1) b p2 h2' else none) (fun k => ?_) (Ev.bind hbr ?_), hr⟩
      · simp only [spec_DrawDiffs.l0]
        rw [if_pos (by clear ei em en ey; omega), e1, Option.bind_some, if_neg (by simp), e2, Option.bind_some, ey, en, ei]
      · simp only [g, if_true]
        exact er
theorem drawdiffs_ev (l : List Int) (hl : l.length ≤ 140737488351232) (n : Nat) (m : Int) (hn : n ≤ 1000000) (hm : 1 ≤ m ∧ m ≤ 100000) : ∃ r, Ev (fun k => spec_DrawDiffs.f k l (n : Int) m) r ∧ r.length = n ∧ ∀ y ∈ r, -m ≤ y ∧ y ≤ m := by
  obtain ⟨h, e⟩ := new_ev l hl
  obtain ⟨r, er, hr, hx⟩ := diffs_loop l hl (n : Int) m (by omega) hm n [] 0 0 h (by omega) (by omega) rfl (by simp) (by omega) (by omega)
  refine ⟨r, ?_, by omega, hx⟩
  unfold spec_DrawDiffs.f
  exact Ev.bind e er

def tz (a b c d : Int) : Int × Int × Int × Int := (a + b + c + d, 2 * a + b - c - 2 * d, a - b - c + d, a - 2 * b + 2 * c - d)
theorem t4_tz {a b c d M : Int} (hM : M ≤ 100000000000) (ha : -M ≤ a ∧ a ≤ M) (hb : -M ≤ b ∧ b ≤ M) (hc : -M ≤ c ∧ c ≤ M) (hd : -M ≤ d ∧ d ≤ M) : t4 a b c d = tz a b c d := by
  unfold t4 tz
  rw [wrap_id (x := a + b) (by omega) (by omega), wrap_id (x := a + b + c) (by omega) (by omega), wrap_id (x := a + b + c + d) (by omega) (by omega), wrap_id (x := 2 * a) (by omega) (by omega), wrap_id (x := 2 * a + b) (by omega) (by omega), wrap_id (x := 2 * a + b - c) (by omega) (by omega), wrap_id (x := 2 * d) (by omega) (by omega), wrap_id (x := 2 * a + b - c - 2 * d) (by omega) (by omega), wrap_id (x := a - b) (by omega) (by omega), wrap_id (x := a - b - c) (by omega) (by omega), wrap_id (x := a - b - c + d) (by omega) (by omega), wrap_id (x := 2 * b) (by omega) (by omega), wrap_id (x := a - 2 * b) (by omega) (by omega), wrap_id (x := 2 * c) (by omega) (by omega), wrap_id (x := a - 2 * b + 2 * c) (by omega) (by omega), wrap_id (x := a - 2 * b + 2 * c - d) (by omega) (by omega)]
theorem rowT_tz {M : Int} {x : List Int} (hM : 0 ≤ M) (hM' : M ≤ 100000000000) (h : InM M x) (r : Nat) : rowT t4 x r = rowT tz x r ∧ InM (6 * M) (rowT tz x r) := by
  have h0 := rd_in hM h r
  have h1 := rd_in hM h (r + 1 : Nat)
  have h2 := rd_in hM h (r + 2 : Nat)
  have h3 := rd_in hM h (r + 3 : Nat)
  unfold rowT
  rw [t4_tz hM' h0 h1 h2 h3]
  refine ⟨rfl, ?_⟩
  unfold tz
  exact set_in (set_in (set_in (set_in (grow_in h (by omega)) _ (by dsimp only; omega)) _ (by dsimp only; omega)) _ (by dsimp only; omega)) _ (by dsimp only; omega)
theorem colT_tz {M : Int} {x : List Int} (hM : 0 ≤ M) (hM' : M ≤ 100000000000) (h : InM M x) (r : Nat) : colT t4 x r = colT tz x r ∧ InM (6 * M) (colT tz x r) := by
  have h0 := rd_in hM h r
  have h1 := rd_in hM h (r + 4 : Nat)
  have h2 := rd_in hM h (r + 8 : Nat)
  have h3 := rd_in hM h (r + 12 : Nat)
  unfold colT
  rw [t4_tz hM' h0 h1 h2 h3]
  refine ⟨rfl, ?_⟩
  unfold tz
  exact set_in (set_in (set_in (set_in (grow_in h (by omega)) _ (by dsimp only; omega)) _ (by dsimp only; omega)) _ (by dsimp only; omega)) _ (by dsimp only; omega)
theorem turned_tz {x : List Int} (h : InM 1000 x) : turnedL t4 x = turnedL tz x ∧ InM 2000000000 (turnedL tz x) := by
  have h1 := rowT_tz (by omega) (by omega) h (4 * 0)
  have h2 := rowT_tz (by omega) (by omega) h1.2 (4 * 1)
  have h3 := rowT_tz (by omega) (by omega) h2.2 (4 * 2)
  have h4 := rowT_tz (by omega) (by omega) h3.2 (4 * 3)
  have h5 := colT_tz (by omega) (by omega) h4.2 0
  have h6 := colT_tz (by omega) (by omega) h5.2 1
  have h7 := colT_tz (by omega) (by omega) h6.2 2
  have h8 := colT_tz (by omega) (by omega) h7.2 3
  refine ⟨?_, grow_in h8.2 (by omega)⟩
  unfold turnedL
  simp only [rowsT, colsT]
  rw [h1.1, h2.1, h3.1, h4.1, h5.1, h6.1, h7.1, h8.1]
def addL (x y : List Int) : List Int := List.zipWith (fun a b => a + b) x y
theorem addL_set : ∀ (x y : List Int) (i : Nat) (u v : Int), addL (x.set i u) (y.set i v) = (addL x y).set i (u + v)
  | [], y, i, u, v => by simp [addL]
  | a :: x, [], i, u, v => by simp [addL]
  | a :: x, b :: y, 0, u, v => by simp [addL]
  | a :: x, b :: y, i + 1, u, v => by
    have := addL_set x y i u v
    simp only [addL, List.set_cons_succ, List.zipWith_cons_cons] at this ⊢
    rw [this]
theorem addL_rd {x y : List Int} (h : x.length = y.length) (i : Int) : rd (addL x y) i = rd x i + rd y i := by
  unfold rd addL
  simp only [List.getD_eq_getElem?_getD, List.getElem?_zipWith]
  by_cases c : i.toNat < x.length
  · rw [List.getElem?_eq_getElem c, List.getElem?_eq_getElem (by omega)]; rfl
  · rw [List.getElem?_eq_none (by omega), List.getElem?_eq_none (by omega)]; rfl
theorem rowT_add {x y : List Int} (h : x.length = y.length) (r : Nat) : rowT tz (addL x y) r = addL (rowT tz x r) (rowT tz y r) := by
  unfold rowT
  simp only [addL_set, addL_rd h, tz]
  congr 1
  · congr 1
    · congr 1
      · congr 1; omega
      · omega
    · omega
  · omega
theorem colT_add {x y : List Int} (h : x.length = y.length) (r : Nat) : colT tz (addL x y) r = addL (colT tz x r) (colT tz y r) := by
  unfold colT
  simp only [addL_set, addL_rd h, tz]
  congr 1
  · congr 1
    · congr 1
      · congr 1; omega
      · omega
    · omega
  · omega
theorem rows_add {x y : List Int} (h : x.length = y.length) : ∀ n, rowsT tz (addL x y) n = addL (rowsT tz x n) (rowsT tz y n)
  | 0 => rfl
  | n + 1 => by rw [rowsT, rowsT, rowsT, rows_add h n, rowT_add (by rw [rowsT_len, rowsT_len, h])]
theorem cols_add {x y : List Int} (h : x.length = y.length) : ∀ n, colsT tz (addL x y) n = addL (colsT tz x n) (colsT tz y n)
  | 0 => rfl
  | n + 1 => by rw [colsT, colsT, colsT, cols_add h n, colT_add (by rw [colsT_len, colsT_len, h])]
theorem turned_add {x y : List Int} (h : x.length = y.length) : turnedL tz (addL x y) = addL (turnedL tz x) (turnedL tz y) := by
  unfold turnedL
  rw [rows_add h, cols_add (by rw [rowsT_len, rowsT_len, h])]
theorem first_sum (a0 a1 a2 a3 a4 a5 a6 a7 a8 a9 a10 a11 a12 a13 a14 a15 : Int) : rd (turnedL tz [a0, a1, a2, a3, a4, a5, a6, a7, a8, a9, a10, a11, a12, a13, a14, a15]) 0 = 0 + a0 + a1 + a2 + a3 + a4 + a5 + a6 + a7 + a8 + a9 + a10 + a11 + a12 + a13 + a14 + a15 := by
  have e : rd (turnedL tz [a0, a1, a2, a3, a4, a5, a6, a7, a8, a9, a10, a11, a12, a13, a14, a15]) 0 = (tz (tz a0 a1 a2 a3).1 (tz a4 a5 a6 a7).1 (tz a8 a9 a10 a11).1 (tz a12 a13 a14 a15).1).1 := by kernel_rfl
  rw [e]
  simp only [tz]
  omega
theorem b4_alone {m : Int} (h : -1000000 ≤ m ∧ m ≤ 1000000) : b4 m 0 0 0 = (m, m, m, m) := by
  unfold b4
  rw [show fl2 0 = 0 from by decide +kernel]
  simp only [Int.add_zero, Int.sub_zero, Int.zero_add]
  rw [show wrap64 0 = 0 from by decide +kernel, wrap_id (x := m) (by omega) (by omega)]
  simp only [Int.add_zero, Int.sub_zero]
  rw [wrap_id (x := m) (by omega) (by omega)]
theorem turned_alone {m : Int} (h : -1000000 ≤ m ∧ m ≤ 1000000) : turnedL b4 (m :: List.replicate 15 0) = List.replicate 16 m := by
  have e := b4_alone h
  have z : b4 0 0 0 0 = (0, 0, 0, 0) := b4_alone (by omega)
  have r0 : rowT b4 (m :: List.replicate 15 0) (4 * 0) = (b4 m 0 0 0).1 :: (b4 m 0 0 0).2.1 :: (b4 m 0 0 0).2.2.1 :: (b4 m 0 0 0).2.2.2 :: List.replicate 12 0 := by kernel_rfl
  rw [e] at r0
  have r1 : rowT b4 (m :: m :: m :: m :: List.replicate 12 0) (4 * 1) = m :: m :: m :: m :: (b4 0 0 0 0).1 :: (b4 0 0 0 0).2.1 :: (b4 0 0 0 0).2.2.1 :: (b4 0 0 0 0).2.2.2 :: List.replicate 8 0 := by kernel_rfl
  rw [z] at r1
  have r2 : rowT b4 (m :: m :: m :: m :: List.replicate 12 0) (4 * 2) = m :: m :: m :: m :: 0 :: 0 :: 0 :: 0 :: (b4 0 0 0 0).1 :: (b4 0 0 0 0).2.1 :: (b4 0 0 0 0).2.2.1 :: (b4 0 0 0 0).2.2.2 :: List.replicate 4 0 := by kernel_rfl
  rw [z] at r2
  have r3 : rowT b4 (m :: m :: m :: m :: List.replicate 12 0) (4 * 3) = m :: m :: m :: m :: 0 :: 0 :: 0 :: 0 :: 0 :: 0 :: 0 :: 0 :: (b4 0 0 0 0).1 :: (b4 0 0 0 0).2.1 :: (b4 0 0 0 0).2.2.1 :: (b4 0 0 0 0).2.2.2 :: [] := by kernel_rfl
  rw [z] at r3
  have r1' : rowT b4 (m :: m :: m :: m :: List.replicate 12 0) (4 * 1) = m :: m :: m :: m :: List.replicate 12 0 := r1
  have r2' : rowT b4 (m :: m :: m :: m :: List.replicate 12 0) (4 * 2) = m :: m :: m :: m :: List.replicate 12 0 := r2
  have r3' : rowT b4 (m :: m :: m :: m :: List.replicate 12 0) (4 * 3) = m :: m :: m :: m :: List.replicate 12 0 := r3
  have c0 : colT b4 (m :: m :: m :: m :: List.replicate 12 0) 0 = [(b4 m 0 0 0).1, m, m, m, (b4 m 0 0 0).2.1, 0, 0, 0, (b4 m 0 0 0).2.2.1, 0, 0, 0, (b4 m 0 0 0).2.2.2, 0, 0, 0] := by kernel_rfl
  rw [e] at c0
  have c1 : colT b4 [m, m, m, m, m, 0, 0, 0, m, 0, 0, 0, m, 0, 0, 0] 1 = [m, (b4 m 0 0 0).1, m, m, m, (b4 m 0 0 0).2.1, 0, 0, m, (b4 m 0 0 0).2.2.1, 0, 0, m, (b4 m 0 0 0).2.2.2, 0, 0] := by kernel_rfl
  rw [e] at c1
  have c2 : colT b4 [m, m, m, m, m, m, 0, 0, m, m, 0, 0, m, m, 0, 0] 2 = [m, m, (b4 m 0 0 0).1, m, m, m, (b4 m 0 0 0).2.1, 0, m, m, (b4 m 0 0 0).2.2.1, 0, m, m, (b4 m 0 0 0).2.2.2, 0] := by kernel_rfl
  rw [e] at c2
  have c3 : colT b4 [m, m, m, m, m, m, m, 0, m, m, m, 0, m, m, m, 0] 3 = [m, m, m, (b4 m 0 0 0).1, m, m, m, (b4 m 0 0 0).2.1, m, m, m, (b4 m 0 0 0).2.2.1, m, m, m, (b4 m 0 0 0).2.2.2] := by kernel_rfl
  rw [e] at c3
  unfold turnedL
  simp only [rowsT, colsT]
  rw [r0, r1', r2', r3', c0, c1, c2, c3]
  rfl
theorem settled_alone {m : Int} : settledL (List.replicate 16 (64 * m)) = List.replicate 16 m := by
  unfold settledL
  rw [List.map_replicate]
  congr 1
  unfold down64
  omega
theorem fours_at (p : List Int) (a0 a1 a2 a3 a4 a5 a6 a7 a8 a9 a10 a11 a12 a13 a14 a15 v0 v1 v2 v3 v4 v5 v6 v7 v8 v9 v10 v11 v12 v13 v14 v15 : Int) (k : Nat) : laws_FnFours.l0 (k + 17) p [a0, a1, a2, a3, a4, a5, a6, a7, a8, a9, a10, a11, a12, a13, a14, a15] [v0, v1, v2, v3, v4, v5, v6, v7, v8, v9, v10, v11, v12, v13, v14, v15] [] 0 0 = laws_FnFours.l0 (k + 1) p [a0, a1, a2, a3, a4, a5, a6, a7, a8, a9, a10, a11, a12, a13, a14, a15] [v0, v1, v2, v3, v4, v5, v6, v7, v8, v9, v10, v11, v12, v13, v14, v15] [wrap64 (a0 + v0), wrap64 (a1 + v1), wrap64 (a2 + v2), wrap64 (a3 + v3), wrap64 (a4 + v4), wrap64 (a5 + v5), wrap64 (a6 + v6), wrap64 (a7 + v7), wrap64 (a8 + v8), wrap64 (a9 + v9), wrap64 (a10 + v10), wrap64 (a11 + v11), wrap64 (a12 + v12), wrap64 (a13 + v13), wrap64 (a14 + v14), wrap64 (a15 + v15)] (wrap64 (wrap64 (wrap64 (wrap64 (wrap64 (wrap64 (wrap64 (wrap64 (wrap64 (wrap64 (wrap64 (wrap64 (wrap64 (wrap64 (wrap64 (wrap64 (0 + a0) + a1) + a2) + a3) + a4) + a5) + a6) + a7) + a8) + a9) + a10) + a11) + a12) + a13) + a14) + a15)) 16 := by kernel_rfl
theorem Ev.jump {α : Type} {f g : Nat → Option α} {v : α} (n m : Nat) (h : ∀ k, g (k + n) = f (k + m)) (e : Ev f v) : Ev g v := by
  obtain ⟨q, hq⟩ := e
  refine ⟨q + n, fun k hk => ?_⟩
  have e1 := h (k - n)
  rw [Nat.sub_add_cancel (by omega)] at e1
  rw [e1]
  exact hq _ (by omega)
theorem fours_sum {a0 a1 a2 a3 a4 a5 a6 a7 a8 a9 a10 a11 a12 a13 a14 a15 : Int} (h : InM 500 [a0, a1, a2, a3, a4, a5, a6, a7, a8, a9, a10, a11, a12, a13, a14, a15]) : wrap64 (wrap64 (wrap64 (wrap64 (wrap64 (wrap64 (wrap64 (wrap64 (wrap64 (wrap64 (wrap64 (wrap64 (wrap64 (wrap64 (wrap64 (wrap64 (0 + a0) + a1) + a2) + a3) + a4) + a5) + a6) + a7) + a8) + a9) + a10) + a11) + a12) + a13) + a14) + a15) = 0 + a0 + a1 + a2 + a3 + a4 + a5 + a6 + a7 + a8 + a9 + a10 + a11 + a12 + a13 + a14 + a15 := by
  have q : (-500 ≤ a0 ∧ a0 ≤ 500) ∧ (-500 ≤ a1 ∧ a1 ≤ 500) ∧ (-500 ≤ a2 ∧ a2 ≤ 500) ∧ (-500 ≤ a3 ∧ a3 ≤ 500) ∧ (-500 ≤ a4 ∧ a4 ≤ 500) ∧ (-500 ≤ a5 ∧ a5 ≤ 500) ∧ (-500 ≤ a6 ∧ a6 ≤ 500) ∧ (-500 ≤ a7 ∧ a7 ≤ 500) ∧ (-500 ≤ a8 ∧ a8 ≤ 500) ∧ (-500 ≤ a9 ∧ a9 ≤ 500) ∧ (-500 ≤ a10 ∧ a10 ≤ 500) ∧ (-500 ≤ a11 ∧ a11 ≤ 500) ∧ (-500 ≤ a12 ∧ a12 ≤ 500) ∧ (-500 ≤ a13 ∧ a13 ≤ 500) ∧ (-500 ≤ a14 ∧ a14 ≤ 500) ∧ (-500 ≤ a15 ∧ a15 ≤ 500) := ⟨h a0 (by simp), h a1 (by simp), h a2 (by simp), h a3 (by simp), h a4 (by simp), h a5 (by simp), h a6 (by simp), h a7 (by simp), h a8 (by simp), h a9 (by simp), h a10 (by simp), h a11 (by simp), h a12 (by simp), h a13 (by simp), h a14 (by simp), h a15 (by simp)⟩
  rw [wrap_id (x := 0 + a0) (by omega) (by omega), wrap_id (x := 0 + a0 + a1) (by omega) (by omega), wrap_id (x := 0 + a0 + a1 + a2) (by omega) (by omega), wrap_id (x := 0 + a0 + a1 + a2 + a3) (by omega) (by omega), wrap_id (x := 0 + a0 + a1 + a2 + a3 + a4) (by omega) (by omega), wrap_id (x := 0 + a0 + a1 + a2 + a3 + a4 + a5) (by omega) (by omega), wrap_id (x := 0 + a0 + a1 + a2 + a3 + a4 + a5 + a6) (by omega) (by omega), wrap_id (x := 0 + a0 + a1 + a2 + a3 + a4 + a5 + a6 + a7) (by omega) (by omega), wrap_id (x := 0 + a0 + a1 + a2 + a3 + a4 + a5 + a6 + a7 + a8) (by omega) (by omega), wrap_id (x := 0 + a0 + a1 + a2 + a3 + a4 + a5 + a6 + a7 + a8 + a9) (by omega) (by omega), wrap_id (x := 0 + a0 + a1 + a2 + a3 + a4 + a5 + a6 + a7 + a8 + a9 + a10) (by omega) (by omega), wrap_id (x := 0 + a0 + a1 + a2 + a3 + a4 + a5 + a6 + a7 + a8 + a9 + a10 + a11) (by omega) (by omega), wrap_id (x := 0 + a0 + a1 + a2 + a3 + a4 + a5 + a6 + a7 + a8 + a9 + a10 + a11 + a12) (by omega) (by omega), wrap_id (x := 0 + a0 + a1 + a2 + a3 + a4 + a5 + a6 + a7 + a8 + a9 + a10 + a11 + a12 + a13) (by omega) (by omega), wrap_id (x := 0 + a0 + a1 + a2 + a3 + a4 + a5 + a6 + a7 + a8 + a9 + a10 + a11 + a12 + a13 + a14) (by omega) (by omega), wrap_id (x := 0 + a0 + a1 + a2 + a3 + a4 + a5 + a6 + a7 + a8 + a9 + a10 + a11 + a12 + a13 + a14 + a15) (by omega) (by omega)]
theorem fours_all {a0 a1 a2 a3 a4 a5 a6 a7 a8 a9 a10 a11 a12 a13 a14 a15 v0 v1 v2 v3 v4 v5 v6 v7 v8 v9 v10 v11 v12 v13 v14 v15 : Int} (h : InM 500 [a0, a1, a2, a3, a4, a5, a6, a7, a8, a9, a10, a11, a12, a13, a14, a15]) (g : InM 500 [v0, v1, v2, v3, v4, v5, v6, v7, v8, v9, v10, v11, v12, v13, v14, v15]) : [wrap64 (a0 + v0), wrap64 (a1 + v1), wrap64 (a2 + v2), wrap64 (a3 + v3), wrap64 (a4 + v4), wrap64 (a5 + v5), wrap64 (a6 + v6), wrap64 (a7 + v7), wrap64 (a8 + v8), wrap64 (a9 + v9), wrap64 (a10 + v10), wrap64 (a11 + v11), wrap64 (a12 + v12), wrap64 (a13 + v13), wrap64 (a14 + v14), wrap64 (a15 + v15)] = addL [a0, a1, a2, a3, a4, a5, a6, a7, a8, a9, a10, a11, a12, a13, a14, a15] [v0, v1, v2, v3, v4, v5, v6, v7, v8, v9, v10, v11, v12, v13, v14, v15] := by
  have w : ∀ u v : Int, (-500 ≤ u ∧ u ≤ 500) → (-500 ≤ v ∧ v ≤ 500) → wrap64 (u + v) = u + v := fun u v hu hv => wrap_id (by omega) (by omega)
  rw [w a0 v0 (h a0 (by simp)) (g v0 (by simp)), w a1 v1 (h a1 (by simp)) (g v1 (by simp)), w a2 v2 (h a2 (by simp)) (g v2 (by simp)), w a3 v3 (h a3 (by simp)) (g v3 (by simp)), w a4 v4 (h a4 (by simp)) (g v4 (by simp)), w a5 v5 (h a5 (by simp)) (g v5 (by simp)), w a6 v6 (h a6 (by simp)) (g v6 (by simp)), w a7 v7 (h a7 (by simp)) (g v7 (by simp)), w a8 v8 (h a8 (by simp)) (g v8 (by simp)), w a9 v9 (h a9 (by simp)) (g v9 (by simp)), w a10 v10 (h a10 (by simp)) (g v10 (by simp)), w a11 v11 (h a11 (by simp)) (g v11 (by simp)), w a12 v12 (h a12 (by simp)) (g v12 (by simp)), w a13 v13 (h a13 (by simp)) (g v13 (by simp)), w a14 v14 (h a14 (by simp)) (g v14 (by simp)), w a15 v15 (h a15 (by simp)) (g v15 (by simp))]
  rfl
theorem addL_in {x y : List Int} (h : x.length = y.length) (hx : InM 500 x) (hy : InM 500 y) : InM 1000 (addL x y) := by
  intro v hv
  obtain ⟨i, hi, rfl⟩ := List.getElem_of_mem hv
  have hl : (addL x y).length = x.length := by simp [addL, h]
  have h1 := hx x[i] (List.getElem_mem (by omega))
  have h2 := hy y[i] (List.getElem_mem (by omega))
  have e : (addL x y)[i] = x[i]'(by omega) + y[i]'(by omega) := by simp [addL]
  rw [e]
  omega
theorem foOk_of {x : List Int} (hl : x.length = 16) (h : InM 1000 x) : FoOk x := ⟨hl, allB_iff.2 (fun v hv => by have := h v hv; omega)⟩
theorem FnFours : laws_FnFours.Pure := by
  intro l hm hl hw
  rw [Nat.mul_one] at hl
  refine Ev.rounds ?_
  unfold laws_FnFours.f laws_big.f
  simp only [Option.bind_some]
  by_cases c : (l.length : Int) > 1048576
  · simp only [c, decide_true, if_true]; exact Ev.now _
  · simp only [c, decide_false, Bool.false_eq_true, if_false]
    obtain ⟨p, ep, lp, hp⟩ := places_ev l hl
    obtain ⟨x, ex, lx, hx⟩ := drawdiffs_ev l hl 16 500 (by omega) (by omega)
    obtain ⟨y, ey, ly, hy⟩ := drawdiffs_ev ([3] ++ l) (by simp; omega) 16 500 (by omega) (by omega)
    have q0 : 0 ≤ rd p 0 ∧ rd p 0 < 10000 := rd_mem hp 0 (by omega) (by omega)
    have ex' : Ev (fun k => spec_DrawDiffs.f k l 16 500) x := ex
    have ey' : Ev (fun k => spec_DrawDiffs.f k ([3] ++ l) 16 500) y := ey
    refine Ev.bind ep (Ev.bind ex' ?_)
    have g1 : ([3] : List Int).length + l.length < 140737488355328 := by simp; omega
    simp only [g1, if_true]
    refine Ev.bind ey' ?_
    clear g1
    clear ex ey ex' ey' ep hw hm
    have hX : InM 500 x := hx
    have hY : InM 500 y := hy
    obtain ⟨a0, a1, a2, a3, a4, a5, a6, a7, a8, a9, a10, a11, a12, a13, a14, a15, rfl⟩ := list16 x lx
    obtain ⟨v0, v1, v2, v3, v4, v5, v6, v7, v8, v9, v10, v11, v12, v13, v14, v15, rfl⟩ := list16 y ly
    refine Ev.jump (f := fun n => laws_FnFours.l0 n p [a0, a1, a2, a3, a4, a5, a6, a7, a8, a9, a10, a11, a12, a13, a14, a15] [v0, v1, v2, v3, v4, v5, v6, v7, v8, v9, v10, v11, v12, v13, v14, v15] [wrap64 (a0 + v0), wrap64 (a1 + v1), wrap64 (a2 + v2), wrap64 (a3 + v3), wrap64 (a4 + v4), wrap64 (a5 + v5), wrap64 (a6 + v6), wrap64 (a7 + v7), wrap64 (a8 + v8), wrap64 (a9 + v9), wrap64 (a10 + v10), wrap64 (a11 + v11), wrap64 (a12 + v12), wrap64 (a13 + v13), wrap64 (a14 + v14), wrap64 (a15 + v15)] (wrap64 (wrap64 (wrap64 (wrap64 (wrap64 (wrap64 (wrap64 (wrap64 (wrap64 (wrap64 (wrap64 (wrap64 (wrap64 (wrap64 (wrap64 (wrap64 (0 + a0) + a1) + a2) + a3) + a4) + a5) + a6) + a7) + a8) + a9) + a10) + a11) + a12) + a13) + a14) + a15)) 16) 17 1 (fun k => fours_at p a0 a1 a2 a3 a4 a5 a6 a7 a8 a9 a10 a11 a12 a13 a14 a15 v0 v1 v2 v3 v4 v5 v6 v7 v8 v9 v10 v11 v12 v13 v14 v15 k) ?_
    rw [fours_sum hX, fours_all hX hY]
    have hZ := addL_in (x := [a0, a1, a2, a3, a4, a5, a6, a7, a8, a9, a10, a11, a12, a13, a14, a15]) (y := [v0, v1, v2, v3, v4, v5, v6, v7, v8, v9, v10, v11, v12, v13, v14, v15]) rfl hX hY
    have tX := turned_tz (grow_in hX (by omega))
    have tY := turned_tz (grow_in hY (by omega))
    have tZ := turned_tz hZ
    have fX := four_ev [a0, a1, a2, a3, a4, a5, a6, a7, a8, a9, a10, a11, a12, a13, a14, a15] (by simp)
    have fY := four_ev [v0, v1, v2, v3, v4, v5, v6, v7, v8, v9, v10, v11, v12, v13, v14, v15] (by simp)
    have fZ := four_ev (addL [a0, a1, a2, a3, a4, a5, a6, a7, a8, a9, a10, a11, a12, a13, a14, a15] [v0, v1, v2, v3, v4, v5, v6, v7, v8, v9, v10, v11, v12, v13, v14, v15]) (by simp [addL])
    rw [if_pos (foOk_of rfl (grow_in hX (by omega))), tX.1] at fX
    rw [if_pos (foOk_of rfl (grow_in hY (by omega))), tY.1] at fY
    rw [if_pos (foOk_of rfl hZ), tZ.1] at fZ
    have hs := first_sum a0 a1 a2 a3 a4 a5 a6 a7 a8 a9 a10 a11 a12 a13 a14 a15
    have hadd := turned_add (x := [a0, a1, a2, a3, a4, a5, a6, a7, a8, a9, a10, a11, a12, a13, a14, a15]) (y := [v0, v1, v2, v3, v4, v5, v6, v7, v8, v9, v10, v11, v12, v13, v14, v15]) rfl
    have lA := turnedL_len tz [a0, a1, a2, a3, a4, a5, a6, a7, a8, a9, a10, a11, a12, a13, a14, a15]
    have lB := turnedL_len tz [v0, v1, v2, v3, v4, v5, v6, v7, v8, v9, v10, v11, v12, v13, v14, v15]
    have lC := turnedL_len tz (addL [a0, a1, a2, a3, a4, a5, a6, a7, a8, a9, a10, a11, a12, a13, a14, a15] [v0, v1, v2, v3, v4, v5, v6, v7, v8, v9, v10, v11, v12, v13, v14, v15])
    have bA := tX.2
    have bB := tY.2
    generalize turnedL tz [a0, a1, a2, a3, a4, a5, a6, a7, a8, a9, a10, a11, a12, a13, a14, a15] = TA at fX hs hadd lA bA
    generalize turnedL tz [v0, v1, v2, v3, v4, v5, v6, v7, v8, v9, v10, v11, v12, v13, v14, v15] = TB at fY hadd lB bB
    generalize turnedL tz (addL [a0, a1, a2, a3, a4, a5, a6, a7, a8, a9, a10, a11, a12, a13, a14, a15] [v0, v1, v2, v3, v4, v5, v6, v7, v8, v9, v10, v11, v12, v13, v14, v15]) = TC at fZ hadd lC
    have lA' : TA.length = 16 := lA
    have lB' : TB.length = 16 := lB
    have lC' : TC.length = 16 := by rw [hadd, addL, List.length_zipWith, lA', lB']; rfl
    have gB := fourback_ev ((64 * (rd p 0 - 5000)) :: List.replicate 15 0) (by simp)
    have okB : FbOk ((64 * (rd p 0 - 5000)) :: List.replicate 15 0) := ⟨rfl, allB_iff.2 (fun v hv => by
      rcases List.mem_cons.1 hv with h1 | h1
      · omega
      · have := List.eq_of_mem_replicate h1; omega)⟩
    rw [fbv, if_pos okB, turned_alone (by omega), settled_alone] at gB
    have e1 : wrap64 (rd p 0 - 5000) = rd p 0 - 5000 := wrap_id (by omega) (by omega)
    have e2 : wrap64 (64 * (rd p 0 - 5000)) = 64 * (rd p 0 - 5000) := wrap_id (by omega) (by omega)
    refine Ev.step (fun k => by simp only [laws_FnFours.l0]; rw [if_neg (by decide)]) ?_
    refine Ev.bind fX (Ev.bind fY (Ev.bind fZ ?_))
    clear fX fY fZ
    have g2 : (16 : Nat) ≤ 35184372088832 := by omega
    have g3 : (0 : Int) < (p.length : Int) := by omega
    have g4 : (0 : Int) < ((List.replicate 16 (0 : Int)).length : Int) := by decide
    simp only [g2, if_true, Option.bind_some, g3, g4, e1, e2]
    have gB' : Ev (fun k => impl_FourBack.f k ((List.replicate 16 (0 : Int)).set (0 : Int).toNat (64 * (rd p 0 - 5000)))) (List.replicate 16 (rd p 0 - 5000)) := gB
    refine Ev.bind gB' ?_
    have g5 : (TA.length : Int) = 16 := by omega
    have g6 : (TB.length : Int) = 16 := by omega
    have g7 : (TC.length : Int) = 16 := by omega
    have g8 : ((List.replicate 16 (rd p 0 - 5000)).length : Int) = 16 := by simp
    have g9 : (0 : Int) < (16 : Int) := by omega
    simp only [g5, g6, g7, g8, if_true, g9]
    rw [hs, bne_self_eq_false]
    refine Ev.step (fun k => by simp only [laws_FnFours.j1]; rfl) ?_
    simp only [Bool.false_eq_true, if_false]
    clear gB gB' hs hX hY hZ tX tY tZ
    have H : ∀ i : Nat, i ≤ 16 → Ev (fun k => laws_FnFours.l1 k p TA TB TC (List.replicate 16 (rd p 0 - 5000)) (i : Int)) true := by
      refine down 16 ?_ ?_
      · refine Ev.step (f := fun _ => some true) (fun k => ?_) (Ev.now _)
        simp only [laws_FnFours.l1]
        rw [if_neg (by omega)]
      · intro i hi h
        refine Ev.step (fun k => ?_) h
        have hA := rd_in (by omega) bA (i : Int)
        have hB := rd_in (by omega) bB (i : Int)
        have hr : rd (List.replicate 16 (rd p 0 - 5000)) (i : Int) = rd p 0 - 5000 := by
          show (List.replicate 16 (rd p 0 - 5000)).getD (i : Int).toNat 0 = rd p 0 - 5000
          rw [Int.toNat_natCast, List.getD_eq_getElem?_getD, List.getElem?_replicate, if_pos hi]; rfl
        have hC : rd TC (i : Int) = rd TA (i : Int) + rd TB (i : Int) := by rw [hadd, addL_rd (by rw [lA', lB'])]
        simp only [laws_FnFours.l1]
        rw [if_pos (by omega), if_pos (by omega), if_pos (by omega), if_pos (by omega), if_pos (by omega), hC, wrap_id (x := rd TA (i : Int) + rd TB (i : Int)) (by omega) (by omega), if_pos rfl, if_pos (by rw [List.length_replicate]; omega), if_pos g3, hr, e1, if_pos rfl, wrap_id (x := (i : Int) + 1) (by omega) (by omega), cast1]
    exact H 0 (by omega)

end Go.Proofs.Ytlmlkoalicjlhaa.Pure
