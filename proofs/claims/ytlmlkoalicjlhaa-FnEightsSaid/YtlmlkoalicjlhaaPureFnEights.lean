/- Sixty-four drawn numbers come back from their turns of eight whole; their weight is sixty-four times as much: the law FnEights answers true of every row of bytes. No condition beside the row's own. -/
import Derived.Test.YtlmlkoalicjlhaaQFnEightsx4
namespace Go.Proofs.Ytlmlkoalicjlhaa.Pure
open Go.RowKit Go.Proofs.Ytlmlkoalicjlhaa.QFnEights Go.Proofs.YtlmlkoalicjlhaaW.PrintWords Go.Proofs.YtlmlkoalicjlhaaW.PrintLast Go.Proofs.YtlmlkoalicjlhaaW.PrintMore
set_option linter.unusedVariables false
set_option linter.unusedSimpArgs false

theorem wrap_id {x : Int} (h0 : -9223372036854775808 ≤ x) (h1 : x ≤ 9223372036854775807) : wrap64 x = x := by
  unfold wrap64
  omega
theorem wf64 {n : Int} (h : (Lit.int .i64 n).wf = true) : -9223372036854775808 ≤ n ∧ n ≤ 9223372036854775807 := by
  simp [Lit.wf, IntKind.min, IntKind.max, IntKind.signed, IntKind.bits] at h
  omega
theorem wfu8 {n : Int} (h : (Lit.int .u8 n).wf = true) : 0 ≤ n ∧ n ≤ 255 := by
  simp [Lit.wf, IntKind.min, IntKind.max, IntKind.signed, IntKind.bits] at h
  omega
theorem within_eq (a b c : Int) : impl_within.f a b c = some (decide (b ≤ a ∧ a ≤ c)) := by
  unfold impl_within.f
  by_cases h : a ≥ b
  · rw [if_pos h]; congr 1; rw [decide_eq_decide]; omega
  · rw [if_neg h]; congr 1; symm; rw [decide_eq_false_iff_not]; omega

theorem down {P : Nat → Prop} (n : Nat) (h0 : P n) (hs : ∀ i, i < n → P (i + 1) → P i) : ∀ i, i ≤ n → P i := by
  intro i hi
  obtain ⟨d, hd⟩ : ∃ d, d = n - i := ⟨_, rfl⟩
  induction d generalizing i with
  | zero =>
    have : i = n := by omega
    subst this; exact h0
  | succ d ih => exact hs i (by omega) (ih (i + 1) (by omega) (by omega))
theorem rd_nat (l : List Int) (i : Nat) (h : i < l.length) : rd l (i : Int) = l[i] := by
  unfold rd
  rw [List.getD_eq_getElem?_getD, Int.toNat_natCast, List.getElem?_eq_getElem h]; rfl
theorem cast1 (i : Nat) : ((i : Nat) : Int) + 1 = ((i + 1 : Nat) : Int) := rfl
theorem mix_set {α : Type} (l z : List α) (i : Nat) (hi : i < l.length) (hz : i < z.length) : (l.take i ++ z.drop i).set i l[i] = l.take (i + 1) ++ z.drop (i + 1) := by
  rw [List.set_append_right _ _ (by simp; omega)]
  rw [show i - (l.take i).length = 0 by simp; omega]
  rw [List.drop_eq_getElem_cons hz, List.set_cons_zero, List.take_succ_eq_append_getElem hi, List.append_assoc]; rfl
theorem mix_length {α : Type} (l z : List α) (i : Nat) (h : l.length = z.length) (hi : i ≤ l.length) : (l.take i ++ z.drop i).length = l.length := by
  simp; omega
theorem mix_end {α : Type} (l z : List α) (h : l.length = z.length) : l.take l.length ++ z.drop l.length = l := by
  rw [List.take_length, h, List.drop_length, List.append_nil]
theorem mix_zero {α : Type} (l z : List α) : l.take 0 ++ z.drop 0 = z := by simp
theorem drop_cons {α : Type} {l : List α} {i : Nat} (h : i < l.length) : l.drop i = l[i] :: l.drop (i + 1) := List.drop_eq_getElem_cons h
/-- All numbers of a list are from lo to hi. -/
def allB (lo hi : Int) (l : List Int) : Bool := l.all fun x => decide (lo ≤ x ∧ x ≤ hi)
theorem allB_cons (lo hi x : Int) (l : List Int) : allB lo hi (x :: l) = (decide (lo ≤ x ∧ x ≤ hi) && allB lo hi l) := rfl
theorem allB_iff {lo hi : Int} {l : List Int} : allB lo hi l = true ↔ ∀ x ∈ l, lo ≤ x ∧ x ≤ hi := by
  unfold allB
  rw [List.all_eq_true]
  simp only [decide_eq_true_eq]
theorem areIn_ev (l : List Int) (n lo hi : Int) (hl : l.length ≤ 17592186043904) : Ev (fun k => impl_areIn.f k l n lo hi) (decide ((l.length : Int) = n) && allB lo hi l) := by
  have H : ∀ i, i ≤ l.length → Ev (fun k => impl_areIn.l0 k l n lo hi l (l.length : Int) (i : Int)) (decide ((l.length : Int) = n) && allB lo hi (l.drop i)) := by
    refine down l.length ?_ ?_
    · refine Ev.step (f := fun _ => some (decide ((l.length : Int) = n))) (fun k => ?_) ?_
      · simp only [impl_areIn.l0]
        rw [if_neg (by omega)]; congr 1
      · rw [List.drop_length]; simp only [allB, List.all_nil, Bool.and_true]; exact Ev.now _
    · intro i h1 h
      rw [drop_cons h1, allB_cons]
      by_cases c : lo ≤ l[i] ∧ l[i] ≤ hi
      · rw [decide_eq_true c, Bool.true_and]
        refine Ev.step (fun k => ?_) h
        simp only [impl_areIn.l0]
        rw [if_pos (by omega), if_pos (by omega), if_pos (by omega), rd_nat l i h1, within_eq, Option.bind_some, if_pos (decide_eq_true c), wrap_id (by omega) (by omega), cast1]
      · rw [decide_eq_false c, Bool.false_and, Bool.and_false]
        refine Ev.step (f := fun _ => some false) (fun k => ?_) (Ev.now _)
        simp only [impl_areIn.l0]
        rw [if_pos (by omega), if_pos (by omega), if_pos (by omega), rd_nat l i h1, within_eq, Option.bind_some, if_neg (by simpa using c)]
  exact H 0 (by omega)

def sg (u k : Nat) : Int := if (u % 2 * (k % 2) + u / 2 % 2 * (k / 2 % 2) + u / 4 % 2 * (k / 4 % 2)) % 2 = 0 then 1 else -1
theorem sg_one (u k : Nat) : sg u k = 1 ∨ sg u k = -1 := by unfold sg; split <;> simp
/-- The sum of f 0 .. f (n - 1). -/
def sm (f : Nat → Int) : Nat → Int
  | 0 => 0
  | n + 1 => sm f n + f n
theorem sm_bound (f : Nat → Int) (B : Int) (n : Nat) (h : ∀ k, k < n → -B ≤ f k ∧ f k ≤ B) : -((n : Int) * B) ≤ sm f n ∧ sm f n ≤ (n : Int) * B := by
  induction n with
  | zero => simp [sm]
  | succ n ih =>
    have h1 := ih (fun k hk => h k (by omega))
    have h2 := h n (by omega)
    have e : ((n + 1 : Nat) : Int) * B = (n : Int) * B + B := by rw [show ((n + 1 : Nat) : Int) = (n : Int) + 1 from rfl, Int.add_mul, Int.one_mul]
    simp only [sm]; rw [e]; omega
theorem sgmul_bound {B x : Int} (u k : Nat) (h : -B ≤ x ∧ x ≤ B) : -B ≤ sg u k * x ∧ sg u k * x ≤ B := by
  rcases sg_one u k with e | e <;> rw [e] <;> omega
def halfAt (x : List Int) (i : Nat) (k : Nat) : Int := sg (i % 8) k * rd x ((8 * (i / 8) + k : Nat) : Int)
def halfv (x : List Int) : List Int := (List.range 64).map fun i => sm (halfAt x i) 8
def outAt (h : List Int) (i : Nat) (j : Nat) : Int := sg (i / 8) j * rd h ((8 * j + i % 8 : Nat) : Int)
def sums2 (h : List Int) : List Int := (List.range 64).map fun i => sm (outAt h i) 8
def sumsv (x : List Int) : List Int := sums2 (halfv x)
theorem halfv_len (x : List Int) : (halfv x).length = 64 := by simp [halfv]
theorem sums2_len (x : List Int) : (sums2 x).length = 64 := by simp [sums2]
theorem sumsv_len (x : List Int) : (sumsv x).length = 64 := sums2_len _
theorem halfv_get (x : List Int) (i : Nat) (h : i < (halfv x).length) : (halfv x)[i] = sm (halfAt x i) 8 := by simp [halfv]
theorem sums2_get (x : List Int) (i : Nat) (h : i < (sums2 x).length) : (sums2 x)[i] = sm (outAt x i) 8 := by simp [sums2]
theorem allB_at {lo hi : Int} {l : List Int} (h : allB lo hi l = true) (i : Nat) (hi' : i < l.length) : lo ≤ rd l (i : Int) ∧ rd l (i : Int) ≤ hi := by
  rw [rd_nat l i hi']; exact allB_iff.1 h _ (List.getElem_mem _)
theorem half_bound {x : List Int} {M : Int} (hx : x.length = 64) (h : allB (-M) M x = true) (i : Nat) (hi : i < 64) (n : Nat) (hn : n ≤ 8) : -((n : Int) * M) ≤ sm (halfAt x i) n ∧ sm (halfAt x i) n ≤ (n : Int) * M :=
  sm_bound _ M n fun k hk => sgmul_bound _ _ (allB_at h _ (by omega))
theorem halfv_all {x : List Int} {M : Int} (hx : x.length = 64) (h : allB (-M) M x = true) : allB (-(8 * M)) (8 * M) (halfv x) = true := by
  rw [allB_iff]
  intro v hv
  obtain ⟨i, hi, rfl⟩ := List.mem_iff_getElem.1 hv
  rw [halfv_get]
  have := half_bound hx h i (by rw [halfv_len] at hi; exact hi) 8 (by omega)
  omega
theorem out_bound {x : List Int} {M : Int} (hx : x.length = 64) (h : allB (-M) M x = true) (i : Nat) (hi : i < 64) (n : Nat) (hn : n ≤ 8) : -((n : Int) * M) ≤ sm (outAt x i) n ∧ sm (outAt x i) n ≤ (n : Int) * M :=
  sm_bound _ M n fun k hk => sgmul_bound _ _ (allB_at h _ (by omega))
theorem sums2_all {x : List Int} {M : Int} (hx : x.length = 64) (h : allB (-M) M x = true) : allB (-(8 * M)) (8 * M) (sums2 x) = true := by
  rw [allB_iff]
  intro v hv
  obtain ⟨i, hi, rfl⟩ := List.mem_iff_getElem.1 hv
  rw [sums2_get]
  have := out_bound hx h i (by rw [sums2_len] at hi; exact hi) 8 (by omega)
  omega
theorem sumsv_all {x : List Int} {M : Int} (hx : x.length = 64) (h : allB (-M) M x = true) : allB (-(64 * M)) (64 * M) (sumsv x) = true := by
  have h2 := sums2_all (halfv_len x) (halfv_all hx h)
  rw [show 8 * (8 * M) = 64 * M by omega] at h2
  exact h2
/-- The first p of l, then noughts, 64 in all. -/
def fillB (l : List Int) (p : Nat) : List Int := l.take p ++ (List.replicate 64 (0 : Int)).drop p
theorem fill_len (l : List Int) (hl : l.length = 64) (p : Nat) (hp : p ≤ 64) : (fillB l p).length = 64 := by
  unfold fillB; rw [mix_length _ _ _ (by simp [hl]) (by omega)]; exact hl
theorem fill_set0 (l : List Int) (hl : l.length = 64) (p : Nat) (hp : p < 64) : (fillB l p).set p 0 = fillB l p := by
  have e : fillB l p = l.take p ++ (0 :: (List.replicate 64 (0 : Int)).drop (p + 1)) := by
    unfold fillB
    rw [List.drop_eq_getElem_cons (by simp; omega), List.getElem_replicate]
  rw [e, List.set_append_right _ _ (by simp; omega), show p - (l.take p).length = 0 by simp; omega, List.set_cons_zero]
theorem fill_set1 (l : List Int) (hl : l.length = 64) (p : Nat) (hp : p < 64) : (fillB l p).set p (l[p]'(by omega)) = fillB l (p + 1) := mix_set l _ p (by omega) (by simp; omega)
theorem fill_rd (l : List Int) (hl : l.length = 64) (p : Nat) (hp : p < 64) (y : Int) : rd ((fillB l p).set p y) (p : Int) = y := by
  rw [rd_nat _ p (by rw [List.length_set, fill_len l hl p (by omega)]; exact hp), List.getElem_set_self]
theorem fill_end (l : List Int) (hl : l.length = 64) : fillB l 64 = l := by
  have := mix_end l (List.replicate 64 (0 : Int)) (by simp [hl])
  rw [hl] at this; exact this
theorem idx8 (r v : Nat) (hr : r < 8) (hv : v < 8) : wrap64 (wrap64 (8 * (r : Int)) + (v : Int)) = ((8 * r + v : Nat) : Int) := by
  rw [wrap_id (x := 8 * (r : Int)) (by omega) (by omega), wrap_id (by omega) (by omega)]; omega
theorem sign_fin : ∀ i j : Fin 8, impl_SignOf.f 3 (i.val : Int) (j.val : Int) = some (sg i.val j.val) := by decide +kernel
theorem sign_ev (u k : Nat) (hu : u < 8) (hk : k < 8) : Ev (fun n => impl_SignOf.f n (u : Int) (k : Int)) (sg u k) := Ev.of (fun n => impl_SignOf.mono _ _ _) (sign_fin ⟨u, hu⟩ ⟨k, hk⟩)
theorem sums_l2 (x : List Int) (hx : x.length = 64) (M : Int) (hM : M ≤ 1000000000) (hb : allB (-M) M x = true) (r v : Nat) (hr : r < 8) (hv : v < 8) (R : List Int)
    (hh : Ev (fun k => impl_sums.l1 k x (fillB (halfv x) (8 * r + v + 1)) (r : Int) (r : Int) ((v + 1 : Nat) : Int)) R) :
    ∀ m : Nat, m ≤ 8 → Ev (fun k => impl_sums.l2 k x ((fillB (halfv x) (8 * r + v)).set (8 * r + v) (sm (halfAt x (8 * r + v)) m)) (r : Int) (v : Int) (r : Int) (v : Int) (m : Int)) R := by
  have hl := halfv_len x
  refine down 8 ?_ ?_
  · refine Ev.step (fun k => ?_) hh
    simp only [impl_sums.l2]
    rw [if_neg (by omega), ← halfv_get x (8 * r + v) (by omega), fill_set1 _ hl _ (by omega), wrap_id (by omega) (by omega), cast1]
  · intro m hm h'
    have b1 := half_bound hx hb (8 * r + v) (by omega) m (by omega)
    have b2 : -M ≤ sg v m * rd x ((8 * r + m : Nat) : Int) ∧ sg v m * rd x ((8 * r + m : Nat) : Int) ≤ M := sgmul_bound _ _ (allB_at hb _ (by omega))
    have b3 : (m : Int) * M ≤ 8 * 1000000000 ∧ 0 ≤ (m : Int) * M := by
      have h0 : 0 ≤ M := by omega
      exact ⟨Int.mul_le_mul (by omega) hM h0 (by omega), Int.mul_nonneg (by omega) h0⟩
    have e : sm (halfAt x (8 * r + v)) (m + 1) = sm (halfAt x (8 * r + v)) m + sg v m * rd x ((8 * r + m : Nat) : Int) := by
      simp only [sm, halfAt]
      rw [show (8 * r + v) % 8 = v by omega, show (8 * r + v) / 8 = r by omega]
    refine Ev.step (f := fun k => (impl_SignOf.f k (v : Int) (m : Int)).bind fun t => impl_sums.l2 k x (((fillB (halfv x) (8 * r + v)).set (8 * r + v) (sm (halfAt x (8 * r + v)) m)).set (8 * r + v) (wrap64 (sm (halfAt x (8 * r + v)) m + wrap64 (t * rd x ((8 * r + m : Nat) : Int))))) (r : Int) (v : Int) (r : Int) (v : Int) ((m + 1 : Nat) : Int)) (fun k => ?_) (Ev.bind (sign_ev v m hv hm) ?_)
    · simp only [impl_sums.l2]
      rw [if_pos (by omega), idx8 r v hr hv, idx8 r m hr hm, if_pos (by omega), if_pos (by rw [List.length_set, fill_len _ hl _ (by omega)]; omega), fill_rd _ hl _ (by omega), wrap_id (x := (m : Int) + 1) (by omega) (by omega), cast1]
      congr 1
      funext t
      rw [if_pos (by omega), if_pos (by omega), Int.toNat_natCast]
    · rw [List.set_set, wrap_id (x := sg v m * _) (by omega) (by omega), wrap_id (by omega) (by omega), ← e]
      exact h'
theorem sums_l1 (x : List Int) (hx : x.length = 64) (M : Int) (hM : M ≤ 1000000000) (hb : allB (-M) M x = true) (r : Nat) (hr : r < 8) (R : List Int)
    (hh : Ev (fun k => impl_sums.l0 k x (fillB (halfv x) (8 * (r + 1))) ((r + 1 : Nat) : Int)) R) :
    ∀ v : Nat, v ≤ 8 → Ev (fun k => impl_sums.l1 k x (fillB (halfv x) (8 * r + v)) (r : Int) (r : Int) (v : Int)) R := by
  refine down 8 ?_ ?_
  · refine Ev.step (fun k => ?_) hh
    simp only [impl_sums.l1]
    rw [if_neg (by omega), wrap_id (by omega) (by omega), cast1]; rfl
  · intro v hv h'
    refine Ev.step (fun k => ?_) (sums_l2 x hx M hM hb r v hr hv R h' 0 (by omega))
    simp only [impl_sums.l1]
    rw [if_pos (by omega), sm, fill_set0 _ (halfv_len x) _ (by omega)]; rfl
theorem sums_l0 (x : List Int) (hx : x.length = 64) (M : Int) (hM : M ≤ 1000000000) (hb : allB (-M) M x = true) (R : List Int)
    (hh : Ev (fun k => impl_sums.l3 k (halfv x) (List.replicate 64 0) 0) R) :
    ∀ r : Nat, r ≤ 8 → Ev (fun k => impl_sums.l0 k x (fillB (halfv x) (8 * r)) (r : Int)) R := by
  refine down 8 ?_ ?_
  · refine Ev.step (fun k => ?_) hh
    simp only [impl_sums.l0]
    rw [if_neg (by omega), if_pos (by decide), fill_end _ (halfv_len x)]
  · intro r hr h'
    refine Ev.step (fun k => ?_) (sums_l1 x hx M hM hb r hr R h' 0 (by omega))
    simp only [impl_sums.l0]
    rw [if_pos (by omega)]; rfl
theorem sums_l5 (x : List Int) (hx : x.length = 64) (M : Int) (hM : M ≤ 1000000000) (hb : allB (-M) M x = true) (r v : Nat) (hr : r < 8) (hv : v < 8) (R : List Int)
    (hh : Ev (fun k => impl_sums.l4 k x (fillB (sums2 x) (8 * r + v + 1)) (r : Int) (r : Int) ((v + 1 : Nat) : Int)) R) :
    ∀ m : Nat, m ≤ 8 → Ev (fun k => impl_sums.l5 k x ((fillB (sums2 x) (8 * r + v)).set (8 * r + v) (sm (outAt x (8 * r + v)) m)) (r : Int) (v : Int) (r : Int) (v : Int) (m : Int)) R := by
  have hl := sums2_len x
  refine down 8 ?_ ?_
  · refine Ev.step (fun k => ?_) hh
    simp only [impl_sums.l5]
    rw [if_neg (by omega), ← sums2_get x (8 * r + v) (by omega), fill_set1 _ hl _ (by omega), wrap_id (by omega) (by omega), cast1]
  · intro m hm h'
    have b1 := out_bound hx hb (8 * r + v) (by omega) m (by omega)
    have b2 : -M ≤ sg r m * rd x ((8 * m + v : Nat) : Int) ∧ sg r m * rd x ((8 * m + v : Nat) : Int) ≤ M := sgmul_bound _ _ (allB_at hb _ (by omega))
    have b3 : (m : Int) * M ≤ 8 * 1000000000 ∧ 0 ≤ (m : Int) * M := by
      have h0 : 0 ≤ M := by omega
      exact ⟨Int.mul_le_mul (by omega) hM h0 (by omega), Int.mul_nonneg (by omega) h0⟩
    have e : sm (outAt x (8 * r + v)) (m + 1) = sm (outAt x (8 * r + v)) m + sg r m * rd x ((8 * m + v : Nat) : Int) := by
      simp only [sm, outAt]
      rw [show (8 * r + v) % 8 = v by omega, show (8 * r + v) / 8 = r by omega]
    refine Ev.step (f := fun k => (impl_SignOf.f k (r : Int) (m : Int)).bind fun t => impl_sums.l5 k x (((fillB (sums2 x) (8 * r + v)).set (8 * r + v) (sm (outAt x (8 * r + v)) m)).set (8 * r + v) (wrap64 (sm (outAt x (8 * r + v)) m + wrap64 (t * rd x ((8 * m + v : Nat) : Int))))) (r : Int) (v : Int) (r : Int) (v : Int) ((m + 1 : Nat) : Int)) (fun k => ?_) (Ev.bind (sign_ev r m hr hm) ?_)
    · simp only [impl_sums.l5]
      rw [if_pos (by omega), idx8 r v hr hv, idx8 m v hm hv, if_pos (by omega), if_pos (by rw [List.length_set, fill_len _ hl _ (by omega)]; omega), fill_rd _ hl _ (by omega), wrap_id (x := (m : Int) + 1) (by omega) (by omega), cast1]
      congr 1
      funext t
      rw [if_pos (by omega), if_pos (by omega), Int.toNat_natCast]
    · rw [List.set_set, wrap_id (x := sg r m * _) (by omega) (by omega), wrap_id (by omega) (by omega), ← e]
      exact h'
theorem sums_l4 (x : List Int) (hx : x.length = 64) (M : Int) (hM : M ≤ 1000000000) (hb : allB (-M) M x = true) (r : Nat) (hr : r < 8) (R : List Int)
    (hh : Ev (fun k => impl_sums.l3 k x (fillB (sums2 x) (8 * (r + 1))) ((r + 1 : Nat) : Int)) R) :
    ∀ v : Nat, v ≤ 8 → Ev (fun k => impl_sums.l4 k x (fillB (sums2 x) (8 * r + v)) (r : Int) (r : Int) (v : Int)) R := by
  refine down 8 ?_ ?_
  · refine Ev.step (fun k => ?_) hh
    simp only [impl_sums.l4]
    rw [if_neg (by omega), wrap_id (by omega) (by omega), cast1]; rfl
  · intro v hv h'
    refine Ev.step (fun k => ?_) (sums_l5 x hx M hM hb r v hr hv R h' 0 (by omega))
    simp only [impl_sums.l4]
    rw [if_pos (by omega), sm, fill_set0 _ (sums2_len x) _ (by omega)]; rfl
theorem sums_l3 (x : List Int) (hx : x.length = 64) (M : Int) (hM : M ≤ 1000000000) (hb : allB (-M) M x = true) :
    ∀ r : Nat, r ≤ 8 → Ev (fun k => impl_sums.l3 k x (fillB (sums2 x) (8 * r)) (r : Int)) (sums2 x) := by
  refine down 8 ?_ ?_
  · refine Ev.step (f := fun _ => some (sums2 x)) (fun k => ?_) (Ev.now _)
    simp only [impl_sums.l3]
    rw [if_neg (by omega), fill_end _ (sums2_len x)]
  · intro r hr h'
    refine Ev.step (fun k => ?_) (sums_l4 x hx M hM hb r hr _ h' 0 (by omega))
    simp only [impl_sums.l3]
    rw [if_pos (by omega)]; rfl
theorem fill_zero (l : List Int) : fillB l 0 = List.replicate 64 0 := by simp [fillB]
theorem sums_ev (x : List Int) (hx : x.length = 64) (M : Int) (hM : M ≤ 100000000) (hb : allB (-M) M x = true) : Ev (fun k => impl_sums.f k x) (sumsv x) := by
  unfold impl_sums.f
  have h2 := sums_l3 (halfv x) (halfv_len x) (8 * M) (by omega) (halfv_all hx hb) 0 (by omega)
  rw [Nat.mul_zero, fill_zero] at h2
  have h1 := sums_l0 x hx M (by omega) hb _ h2 0 (by omega)
  rw [Nat.mul_zero, fill_zero] at h1
  refine Ev.congr (fun k => ?_) h1
  rw [if_pos (by decide)]; rfl

def down64 (x : Int) : Int := (x + 32) / 64
def settledL (l : List Int) : List Int := l.map down64
theorem settledL_len (l : List Int) : (settledL l).length = l.length := by simp [settledL]
theorem down_eq {x : Int} (h0 : -1000000000000 ≤ x) (h1 : x ≤ 1000000000000) :
    (if (64 : Int) = 0 then (none : Option Int) else (if (Int.tmod (wrap64 (x + 32)) 64) < 0 then (some (wrap64 ((wrap64 (Int.tdiv (wrap64 (x + 32)) 64)) - 1))) else (some (wrap64 (Int.tdiv (wrap64 (x + 32)) 64))))) = some (down64 x) := by
  rw [if_neg (by omega), wrap_id (x := x + 32) (by omega) (by omega)]
  unfold down64
  generalize hy : x + 32 = y
  have h2 : -1000000000100 ≤ y := by omega
  have h3 : y ≤ 1000000000100 := by omega
  clear hy h0 h1
  have hd : Int.tdiv y 64 * 64 + Int.tmod y 64 = y := Int.tdiv_mul_add_tmod y 64
  by_cases c : Int.tmod y 64 < 0
  · have hl : -64 < Int.tmod y 64 := by
      have := Int.lt_tmod_of_pos y (b := 64) (by omega)
      omega
    rw [if_pos c, wrap_id (x := Int.tdiv y 64) (by omega) (by omega), wrap_id (by omega) (by omega)]
    congr 1
    omega
  · have hl : Int.tmod y 64 < 64 := Int.tmod_lt_of_pos y (by omega)
    rw [if_neg c, wrap_id (x := Int.tdiv y 64) (by omega) (by omega)]
    congr 1
    omega
/-- A row that is settled up to i. -/
def setTo (l : List Int) (i : Nat) : List Int := (settledL l).take i ++ l.drop i
theorem setTo_len (l : List Int) (i : Nat) (h : i ≤ l.length) : (setTo l i).length = l.length := by
  unfold setTo
  rw [List.length_append, List.length_take, List.length_drop, settledL_len]
  omega
theorem setTo_rd (l : List Int) (i : Nat) (h : i < l.length) : rd (setTo l i) (i : Int) = l[i] := by
  unfold rd setTo
  rw [Int.toNat_natCast, List.getD_eq_getElem?_getD, List.getElem?_append_right (by rw [List.length_take, settledL_len]; omega), List.length_take, settledL_len, Nat.min_eq_left (by omega), Nat.sub_self, List.getElem?_drop, Nat.add_zero, List.getElem?_eq_getElem h]
  rfl
theorem setTo_set (l : List Int) (i : Nat) (h : i < l.length) : (setTo l i).set i (down64 l[i]) = setTo l (i + 1) := by
  have e : down64 l[i] = (settledL l)[i]'(by rw [settledL_len]; exact h) := by simp [settledL]
  rw [e]
  exact mix_set (settledL l) l i (by rw [settledL_len]; exact h) h
theorem setTo_end (l : List Int) : setTo l l.length = settledL l := by
  unfold setTo
  rw [List.drop_length, List.append_nil, List.take_of_length_le (by rw [settledL_len]; omega)]
theorem settled_ev (l : List Int) (hl : l.length ≤ 17592186043904) (hb : ∀ x ∈ l, -1000000000000 ≤ x ∧ x ≤ 1000000000000) : Ev (fun k => impl_settled.f k l) (settledL l) := by
  have H : ∀ i, i ≤ l.length → Ev (fun k => impl_settled.l0 k (setTo l i) (l.length : Int) (i : Int)) (settledL l) := by
    refine down l.length ?_ ?_
    · refine Ev.step (f := fun _ => some (settledL l)) (fun k => ?_) (Ev.now _)
      simp only [impl_settled.l0]
      rw [if_neg (by omega), setTo_end]
    · intro i hi h
      have hx := hb l[i] (List.getElem_mem _)
      refine Ev.step (fun k => ?_) h
      simp only [impl_settled.l0]
      rw [if_pos (by omega), if_pos (by omega), if_pos (by rw [setTo_len l i (by omega)]; omega), setTo_rd l i hi]
      unfold impl_floor.f
      rw [down_eq hx.1 hx.2, Option.bind_some, Int.toNat_natCast, setTo_set l i hi, wrap_id (by omega) (by omega), cast1]
  have h0 := H 0 (by omega)
  unfold impl_settled.f
  exact h0

def EiOk (x : List Int) : Prop := x.length = 64 ∧ allB (-1000) 1000 x = true
instance (x : List Int) : Decidable (EiOk x) := by unfold EiOk; infer_instance
theorem len_dece (l : List Int) (n : Nat) (m : Int) (h : m = (n : Int)) : decide ((l.length : Int) = m) = decide (l.length = n) := by rw [decide_eq_decide]; omega
theorem and_falsee {b : Bool} {p : Prop} [Decidable p] (h : ¬ (p ∧ b = true)) : (decide p && b) = false := by
  rw [Bool.eq_false_iff]; intro h'; rw [Bool.and_eq_true, decide_eq_true_eq] at h'; exact h h'
theorem eight_ev (x : List Int) (hx : x.length ≤ 17592186043904) : Ev (fun k => impl_Eight.f k x) (if EiOk x then sumsv x else []) := by
  unfold impl_Eight.f
  refine Ev.bind (areIn_ev x 64 (-1000) 1000 hx) ?_
  rw [len_dece x 64 64 rfl]
  by_cases c : EiOk x
  · rw [if_pos c, decide_eq_true c.1, c.2]
    simp only [Bool.and_self, if_true]
    exact Ev.bind (sums_ev x c.1 1000 (by omega) c.2) (Ev.now _)
  · rw [if_neg c, and_falsee c]
    simp only [Bool.false_eq_true, if_false]; exact Ev.now _
theorem eout_len (x : List Int) : (if EiOk x then sumsv x else []).length ≤ 64 := by
  by_cases c : EiOk x
  · rw [if_pos c, sumsv_len]; omega
  · rw [if_neg c]; simp

def EbOk (x : List Int) : Prop := x.length = 64 ∧ allB (-10000000) 10000000 x = true
instance (x : List Int) : Decidable (EbOk x) := by unfold EbOk; infer_instance
def ebv (x : List Int) : List Int := if EbOk x then settledL (sumsv x) else []
theorem ebv_len (x : List Int) : (ebv x).length ≤ 64 := by
  unfold ebv
  by_cases c : EbOk x
  · rw [if_pos c, settledL_len, sumsv_len]; omega
  · rw [if_neg c]; simp
theorem sumsv_small {x : List Int} (h : EbOk x) : ∀ v ∈ sumsv x, -1000000000000 ≤ v ∧ v ≤ 1000000000000 := by
  have := allB_iff.1 (sumsv_all h.1 h.2)
  intro v hv
  have h1 := this v hv
  omega
theorem eightback_ev (x : List Int) (hx : x.length ≤ 17592186043904) : Ev (fun k => impl_EightBack.f k x) (ebv x) := by
  unfold impl_EightBack.f ebv
  refine Ev.bind (areIn_ev x 64 (-10000000) 10000000 hx) ?_
  rw [len_dece x 64 64 rfl]
  by_cases c : EbOk x
  · rw [if_pos c, decide_eq_true c.1, c.2]
    simp only [Bool.and_self, if_true]
    exact Ev.bind (sums_ev x c.1 10000000 (by omega) c.2) (Ev.bind (settled_ev _ (by rw [sumsv_len]; omega) (sumsv_small c)) (Ev.now _))
  · rw [if_neg c, and_falsee c]
    simp only [Bool.false_eq_true, if_false]; exact Ev.now _

theorem sm_congr {f g : Nat → Int} {n : Nat} (h : ∀ k, k < n → f k = g k) : sm f n = sm g n := by
  induction n with
  | zero => rfl
  | succ n ih => simp only [sm]; rw [ih (fun k hk => h k (by omega)), h n (by omega)]
theorem sm_mul (c : Int) (f : Nat → Int) (n : Nat) : c * sm f n = sm (fun k => c * f k) n := by
  induction n with
  | zero => simp [sm]
  | succ n ih => simp only [sm]; rw [Int.mul_add, ih]
theorem sm_add (f g : Nat → Int) (n : Nat) : sm f n + sm g n = sm (fun k => f k + g k) n := by
  induction n with
  | zero => rfl
  | succ n ih => simp only [sm]; rw [← ih]; omega
theorem sm_zero (n : Nat) : sm (fun _ => 0) n = 0 := by
  induction n with
  | zero => rfl
  | succ n ih => simp only [sm]; rw [ih]; rfl
theorem sm_swap (F : Nat → Nat → Int) (n m : Nat) : sm (fun i => sm (fun j => F i j) m) n = sm (fun j => sm (fun i => F i j) n) m := by
  induction n with
  | zero => simp only [sm]; rw [sm_zero]
  | succ n ih => simp only [sm]; rw [ih, sm_add]
theorem sg_sym (u k : Nat) : sg u k = sg k u := by
  unfold sg
  rw [Nat.mul_comm (u % 2), Nat.mul_comm (u / 2 % 2), Nat.mul_comm (u / 4 % 2)]
theorem sg_fin : ∀ u k : Fin 8, sm (fun v => sg u.val v * sg v k.val) 8 = if u.val = k.val then 8 else 0 := by decide +kernel
theorem sm_delta (f : Nat → Int) (u n : Nat) : sm (fun k => f k * (if u = k then 8 else 0)) n = if u < n then 8 * f u else 0 := by
  induction n with
  | zero => rfl
  | succ n ih =>
    simp only [sm]
    rw [ih]
    by_cases c : u = n
    · subst c
      rw [if_neg (by omega), if_pos rfl, if_pos (by omega)]
      omega
    · rw [if_neg c]
      by_cases d : u < n
      · rw [if_pos d, if_pos (by omega)]; omega
      · rw [if_neg d, if_neg (by omega)]; omega
/-- One turn of eight numbers. -/
def tr (f : Nat → Int) (v : Nat) : Int := sm (fun k => sg v k * f k) 8
theorem tr_congr {f g : Nat → Int} (h : ∀ k, k < 8 → f k = g k) (v : Nat) : tr f v = tr g v := sm_congr fun k hk => by rw [h k hk]
theorem tr_tr (f : Nat → Int) (u : Nat) (hu : u < 8) : tr (tr f) u = 8 * f u := by
  have e1 : tr (tr f) u = sm (fun v => sm (fun k => sg u v * (sg v k * f k)) 8) 8 := sm_congr fun v _ => by unfold tr; rw [sm_mul]
  rw [e1, sm_swap]
  have e2 : sm (fun k => sm (fun v => sg u v * (sg v k * f k)) 8) 8 = sm (fun k => f k * (if u = k then 8 else 0)) 8 := by
    refine sm_congr fun k hk => ?_
    have h := sg_fin ⟨u, hu⟩ ⟨k, hk⟩
    simp only at h
    rw [← h, sm_mul]
    refine sm_congr fun v _ => ?_
    rw [← Int.mul_assoc, Int.mul_comm]
  rw [e2, sm_delta, if_pos hu]
theorem tr_sq (f : Nat → Int) : sm (fun v => tr f v * tr f v) 8 = 8 * sm (fun k => f k * f k) 8 := by
  have e1 : sm (fun v => tr f v * tr f v) 8 = sm (fun v => sm (fun k => tr f v * (sg v k * f k)) 8) 8 := by
    refine sm_congr fun v _ => ?_
    conv => lhs; rhs; unfold tr
    rw [sm_mul]
  rw [e1, sm_swap]
  have e2 : sm (fun k => sm (fun v => tr f v * (sg v k * f k)) 8) 8 = sm (fun k => f k * tr (tr f) k) 8 := by
    refine sm_congr fun k _ => ?_
    show _ = f k * sm (fun v => sg k v * tr f v) 8
    rw [sm_mul]
    refine sm_congr fun v _ => ?_
    rw [sg_sym k v, Int.mul_comm (tr f v), Int.mul_comm (sg v k) (f k), Int.mul_assoc]
  rw [e2, sm_mul]
  refine sm_congr fun k hk => ?_
  rw [tr_tr f k hk, ← Int.mul_assoc, Int.mul_comm (f k) 8, Int.mul_assoc]
def rowT (X : Nat → Nat → Int) (r v : Nat) : Int := tr (X r) v
def colT (X : Nat → Nat → Int) (u v : Nat) : Int := tr (fun j => X j v) u
theorem col_row (X : Nat → Nat → Int) (u v : Nat) : colT (rowT X) u v = rowT (colT X) u v := by
  unfold colT rowT tr
  have e1 : sm (fun j => sg u j * sm (fun k => sg v k * X j k) 8) 8 = sm (fun j => sm (fun k => sg u j * (sg v k * X j k)) 8) 8 := sm_congr fun j _ => sm_mul _ _ _
  have e2 : sm (fun k => sg v k * sm (fun j => sg u j * X j k) 8) 8 = sm (fun k => sm (fun j => sg v k * (sg u j * X j k)) 8) 8 := sm_congr fun k _ => sm_mul _ _ _
  rw [e1, e2, sm_swap]
  refine sm_congr fun k _ => sm_congr fun j _ => ?_
  rw [← Int.mul_assoc, ← Int.mul_assoc, Int.mul_comm (sg u j)]
theorem turn_turn (X : Nat → Nat → Int) (u v : Nat) (hu : u < 8) (hv : v < 8) : colT (rowT (colT (rowT X))) u v = 64 * X u v := by
  have e1 : colT (rowT (colT (rowT X))) u v = colT (colT (rowT (rowT X))) u v := tr_congr (fun j _ => (col_row (rowT X) j v).symm) u
  rw [e1]
  show tr (tr (fun j => rowT (rowT X) j v)) u = _
  rw [tr_tr _ u hu]
  show 8 * tr (tr (X u)) v = _
  rw [tr_tr _ v hv]
  omega
def sqS (X : Nat → Nat → Int) : Int := sm (fun u => sm (fun v => X u v * X u v) 8) 8
theorem sqS_row (X : Nat → Nat → Int) : sqS (rowT X) = 8 * sqS X := by
  unfold sqS
  rw [sm_mul]
  exact sm_congr fun u _ => tr_sq (X u)
theorem sqS_col (X : Nat → Nat → Int) : sqS (colT X) = 8 * sqS X := by
  unfold sqS
  rw [sm_swap, sm_swap (fun u v => X u v * X u v), sm_mul]
  exact sm_congr fun v _ => tr_sq (fun j => X j v)
/-- The numbers of a list as 8 rows of 8. -/
def gr (x : List Int) (r c : Nat) : Int := rd x ((8 * r + c : Nat) : Int)
theorem half_gr (x : List Int) (r v : Nat) (hr : r < 8) (hv : v < 8) : gr (halfv x) r v = rowT (gr x) r v := by
  unfold gr
  rw [rd_nat (halfv x) (8 * r + v) (by rw [halfv_len]; omega), halfv_get]
  unfold rowT tr halfAt
  rw [show (8 * r + v) % 8 = v by omega, show (8 * r + v) / 8 = r by omega]
theorem sums2_gr (x : List Int) (u v : Nat) (hu : u < 8) (hv : v < 8) : gr (sums2 x) u v = colT (gr x) u v := by
  unfold gr
  rw [rd_nat (sums2 x) (8 * u + v) (by rw [sums2_len]; omega), sums2_get]
  unfold colT tr outAt
  rw [show (8 * u + v) % 8 = v by omega, show (8 * u + v) / 8 = u by omega]
theorem sumsv_gr (x : List Int) (u v : Nat) (hu : u < 8) (hv : v < 8) : gr (sumsv x) u v = colT (rowT (gr x)) u v := by
  unfold sumsv
  rw [sums2_gr _ u v hu hv]
  exact tr_congr (fun j hj => half_gr x j v hj hv) u
theorem sumsv_twice (x : List Int) (hx : x.length = 64) : sumsv (sumsv x) = x.map fun v => 64 * v := by
  apply List.ext_getElem
  · rw [sumsv_len, List.length_map, hx]
  · intro i h1 h2
    rw [sumsv_len] at h1
    have e := sumsv_gr (sumsv x) (i / 8) (i % 8) (by omega) (by omega)
    have e2 : colT (rowT (gr (sumsv x))) (i / 8) (i % 8) = colT (rowT (colT (rowT (gr x)))) (i / 8) (i % 8) :=
      tr_congr (fun j hj => tr_congr (fun k hk => sumsv_gr x j k hj hk) _) _
    rw [e2, turn_turn _ _ _ (by omega) (by omega)] at e
    unfold gr at e
    rw [show 8 * (i / 8) + i % 8 = i by omega, rd_nat _ i (by rw [sumsv_len]; omega), rd_nat x i (by omega)] at e
    rw [e, List.getElem_map]
theorem sm_split (g : Nat → Int) (n : Nat) : sm g (8 * n) = sm (fun u => sm (fun v => g (8 * u + v)) 8) n := by
  induction n with
  | zero => rfl
  | succ n ih =>
    rw [show 8 * (n + 1) = 8 * n + 7 + 1 by omega]
    simp only [sm, Nat.add_zero] at ih ⊢
    omega
def sqN (x : List Int) : Int := sm (fun i => rd x (i : Int) * rd x (i : Int)) x.length
theorem sqL_gr (x : List Int) (hx : x.length = 64) : sqN x = sqS (gr x) := by
  unfold sqN
  rw [hx, show 64 = 8 * 8 from rfl, sm_split]
  rfl
theorem sqS_congr {X Y : Nat → Nat → Int} (h : ∀ u v, u < 8 → v < 8 → X u v = Y u v) : sqS X = sqS Y :=
  sm_congr fun u hu => sm_congr fun v hv => by rw [h u v hu hv]
theorem sqL_turn (x : List Int) (hx : x.length = 64) : sqN (sumsv x) = 64 * sqN x := by
  rw [sqL_gr _ (sumsv_len x), sqL_gr x hx, sqS_congr (fun u v hu hv => sumsv_gr x u v hu hv), sqS_col, sqS_row]
  omega
theorem sq_in {B x : Int} (h : -B ≤ x ∧ x ≤ B) : 0 ≤ x * x ∧ x * x ≤ B * B := by
  by_cases c : 0 ≤ x
  · exact ⟨Int.mul_nonneg c c, Int.mul_le_mul h.2 h.2 c (by omega)⟩
  · have e : x * x = (-x) * (-x) := (Int.neg_mul_neg x x).symm
    rw [e]
    exact ⟨Int.mul_nonneg (by omega) (by omega), Int.mul_le_mul (by omega) (by omega) (by omega) (by omega)⟩
theorem sqL_nonneg (x : List Int) : 0 ≤ sqN x := by
  unfold sqN
  generalize x.length = n
  induction n with
  | zero => exact Int.le_refl 0
  | succ n ih =>
    simp only [sm]
    have : 0 ≤ rd x (n : Int) * rd x (n : Int) := by
      by_cases c : 0 ≤ rd x (n : Int)
      · exact Int.mul_nonneg c c
      · rw [← Int.neg_mul_neg]; exact Int.mul_nonneg (by omega) (by omega)
    omega

def wsum (s : Int) (l : List Int) : Int := l.foldl (fun s x => wrap64 (s + wrap64 (x * x))) s
def WOk (l : List Int) : Prop := l.length ≤ 64 ∧ allB (-80000) 80000 l = true
instance (l : List Int) : Decidable (WOk l) := by unfold WOk; infer_instance
theorem weight_loop (l : List Int) (hl : l.length ≤ 64) : ∀ i, i ≤ l.length → ∀ s, Ev (fun k => impl_Weight.l0 k s l (l.length : Int) (i : Int)) (wsum s (l.drop i)) := by
  refine down l.length ?_ ?_
  · intro s
    refine Ev.step (f := fun _ => some s) (fun k => ?_) (by rw [List.drop_length]; exact Ev.now _)
    simp only [impl_Weight.l0]
    rw [if_neg (by omega)]
  · intro i hi h s
    rw [drop_cons hi]
    refine Ev.step (fun k => ?_) (h (wrap64 (s + wrap64 (l[i] * l[i]))))
    simp only [impl_Weight.l0]
    rw [if_pos (by omega), if_pos (by omega), if_pos (by omega), rd_nat l i hi, wrap_id (x := (i : Int) + 1) (by omega) (by omega), cast1]
theorem weight_ev (l : List Int) (hl : l.length ≤ 17592186043904) : Ev (fun k => impl_Weight.f k l) (if WOk l then wsum 0 l else -1) := by
  unfold impl_Weight.f
  by_cases c : (l.length : Int) > 64
  · rw [if_neg (fun h => by have := h.1; omega)]
    refine Ev.congr (fun k => by rw [if_pos c]) (Ev.step (f := fun _ => some (-1)) (fun k => by simp only [impl_Weight.j0]; rfl) (Ev.now _))
  · refine Ev.congr (fun k => by rw [if_neg c]) (Ev.bind (areIn_ev l _ _ _ hl) ?_)
    by_cases h : WOk l
    · rw [if_pos h, h.2, decide_eq_true rfl]
      refine Ev.step (fun k => by simp only [impl_Weight.j0]; rfl) (weight_loop l h.1 0 (by omega) 0)
    · rw [if_neg h, show allB (-80000) 80000 l = false from Bool.eq_false_iff.2 (fun h' => h ⟨by omega, h'⟩), Bool.and_false]
      exact Ev.step (f := fun _ => some (-1)) (fun k => by simp only [impl_Weight.j0]; rfl) (Ev.now _)

theorem wsum_plain (l : List Int) : ∀ s : Int, (∀ v ∈ l, -80000 ≤ v ∧ v ≤ 80000) → 0 ≤ s → s + (l.length : Int) * 6400000000 ≤ 4000000000000000000 → wsum s l = s + (l.map fun v => v * v).sum := by
  induction l with
  | nil => intro s _ _ _; simp [wsum]
  | cons v l ih =>
    intro s h h0 h1
    have hv := sq_in (h v (List.mem_cons_self ..))
    rw [List.length_cons] at h1
    have e : wrap64 (s + wrap64 (v * v)) = s + v * v := by rw [wrap_id (x := v * v) (by omega) (by omega), wrap_id (by omega) (by omega)]
    have hs : wsum s (v :: l) = wsum (wrap64 (s + wrap64 (v * v))) l := rfl
    rw [hs, e, ih (s + v * v) (fun y hy => h y (List.mem_cons_of_mem _ hy)) (by omega) (by omega), List.map_cons, List.sum_cons]
    omega
theorem sm_take (l : List Int) (n : Nat) (hn : n ≤ l.length) : sm (fun i => rd l (i : Int) * rd l (i : Int)) n = ((l.take n).map fun v => v * v).sum := by
  induction n with
  | zero => simp [sm]
  | succ n ih =>
    simp only [sm]
    rw [ih (by omega), List.take_succ_eq_append_getElem (by omega), List.map_append, List.sum_append, rd_nat l n (by omega)]
    simp
theorem wsum_sq {l : List Int} (hl : l.length ≤ 64) (h : ∀ v ∈ l, -80000 ≤ v ∧ v ≤ 80000) : wsum 0 l = sqN l := by
  rw [wsum_plain l 0 h (by omega) (by omega)]
  unfold sqN
  rw [sm_take l l.length (by omega), List.take_length]
  omega

theorem and_le (x : Int) (m : Nat) (hm : m < 9223372036854775808) : 0 ≤ Go.bits .and .i64 x (m : Int) ∧ Go.bits .and .i64 x (m : Int) ≤ (m : Int) := by
  have h : (BitVec.ofInt 64 x &&& BitVec.ofInt 64 (m : Int)).toNat ≤ m := by
    rw [BitVec.toNat_and]
    refine Nat.le_trans Nat.and_le_right ?_
    rw [BitVec.ofInt_natCast, BitVec.toNat_ofNat]
    exact Nat.mod_le _ _
  have e : Go.bits .and .i64 x (m : Int) = IntKind.i64.wrap (((BitVec.ofInt 64 x &&& BitVec.ofInt 64 (m : Int)).toNat : Nat) : Int) := rfl
  rw [e, IntKind.wrap_i64]
  omega

theorem rounds_ev {α : Type} {g : Nat → Option α} {r : α} (h : Ev g r) : ∃ k, g k = some r := h.rounds
theorem byte_at (b : List Int) (hb : b.length ≤ 140737488351232) (i h : Int) (h0 : 0 ≤ i) (h1 : i ≤ (b.length : Int)) :
    ∃ x i' h', spec_l01Byte.f b i h = some (x, i', h') ∧ 0 ≤ x ∧ x ≤ 255 ∧ 0 ≤ i' ∧ i' ≤ (b.length : Int) := by
  unfold spec_l01Byte.f
  by_cases c : i < (b.length : Int)
  · rw [if_pos c, if_pos h0]
    exact ⟨_, _, _, rfl, (and_le _ 255 (by decide)).1, (and_le _ 255 (by decide)).2, by rw [wrap_id (by omega) (by omega)]; omega, by rw [wrap_id (by omega) (by omega)]; omega⟩
  · rw [if_neg c]
    exact ⟨_, _, _, rfl, (and_le _ 255 (by decide)).1, (and_le _ 255 (by decide)).2, h0, h1⟩
theorem below_at (b : List Int) (hb : b.length ≤ 140737488351232) (i h n : Int) (h0 : 0 ≤ i) (h1 : i ≤ (b.length : Int)) (hn : 0 < n) :
    ∃ x i' h', spec_l01Below.f b i h n = some (x, i', h') ∧ 0 ≤ x ∧ x < n ∧ 0 ≤ i' ∧ i' ≤ (b.length : Int) := by
  unfold spec_l01Below.f
  rw [if_neg (by omega)]
  obtain ⟨x, i1, s1, e1, x0, x1, p1, q1⟩ := byte_at b hb i h h0 h1
  by_cases c : n ≤ 256
  · rw [if_pos c, e1, Option.bind_some, if_neg (by omega)]
    exact ⟨_, _, _, rfl, by simp only [Int.tmod_eq_emod_of_nonneg x0]; exact Int.emod_nonneg _ (by omega), by simp only [Int.tmod_eq_emod_of_nonneg x0]; exact Int.emod_lt_of_pos _ hn, p1, q1⟩
  · obtain ⟨y, i2, s2, e2, y0, y1, p2, q2⟩ := byte_at b hb i1 s1 p1 q1
    obtain ⟨z, i3, s3, e3, z0, z1, p3, q3⟩ := byte_at b hb i2 s2 p2 q2
    obtain ⟨w, i4, s4, e4, w0, w1, p4, q4⟩ := byte_at b hb i3 s3 p3 q3
    rw [if_neg c, e1, Option.bind_some]
    simp only []
    rw [e2, Option.bind_some]
    simp only []
    rw [e3, Option.bind_some]
    simp only []
    rw [e4, Option.bind_some, if_neg (by omega)]
    have hs : wrap64 (wrap64 (wrap64 (wrap64 (x * 16777216) + wrap64 (y * 65536)) + wrap64 (z * 256)) + w) = x * 16777216 + y * 65536 + z * 256 + w := by
      rw [wrap_id (x := x * 16777216) (by omega) (by omega), wrap_id (x := y * 65536) (by omega) (by omega), wrap_id (x := z * 256) (by omega) (by omega), wrap_id (x := x * 16777216 + y * 65536) (by omega) (by omega), wrap_id (x := x * 16777216 + y * 65536 + z * 256) (by omega) (by omega), wrap_id (by omega) (by omega)]
    refine ⟨_, _, _, rfl, ?_, ?_, p4, q4⟩
    · simp only [hs]; rw [Int.tmod_eq_emod_of_nonneg (by omega)]; exact Int.emod_nonneg _ (by omega)
    · simp only [hs]; rw [Int.tmod_eq_emod_of_nonneg (by omega)]; exact Int.emod_lt_of_pos _ hn
theorem below_any (b : List Int) (hb : b.length ≤ 140737488351232) (i h n : Int) (h0 : 0 ≤ i) (h1 : i ≤ (b.length : Int)) :
    ∃ x i' h', spec_l01Below.f b i h n = some (x, i', h') ∧ 0 ≤ x ∧ (0 < n → x < n) ∧ 0 ≤ i' ∧ i' ≤ (b.length : Int) := by
  by_cases hn : 0 < n
  · obtain ⟨x, i', h', e, x0, x1, p, q⟩ := below_at b hb i h n h0 h1 hn
    exact ⟨x, i', h', e, x0, fun _ => x1, p, q⟩
  · exact ⟨0, i, h, by unfold spec_l01Below.f; rw [if_pos (by omega)], by omega, fun h => absurd h hn, h0, h1⟩
theorem new_loop (l : List Int) (hl : l.length ≤ 140737488351232) (d : Nat) : ∀ h i : Int, 0 ≤ i → (l.length : Int) - i = d → ∃ h', Ev (fun k => spec_l01New.l0 k l h i) (l, 0, h') := by
  induction d with
  | zero =>
    intro h i h0 hd
    exact ⟨h, Ev.step (f := fun _ => some (l, 0, h)) (fun k => by simp only [spec_l01New.l0]; rw [if_neg (by omega)]) (Ev.now _)⟩
  | succ d ih =>
    intro h i h0 hd
    by_cases c : i < 4000
    · obtain ⟨h', e⟩ := ih (Go.bits .and .i64 (wrap64 ((wrap64 ((wrap64 (h * 131)) + (wrap64 (rd l i)))) + 7)) 1073741823) (i + 1) (by omega) (by omega)
      refine ⟨h', Ev.step (fun k => ?_) e⟩
      simp only [spec_l01New.l0]
      rw [if_pos (by omega), if_pos c, if_pos h0, wrap_id (x := i + 1) (by omega) (by omega)]
    · exact ⟨h, Ev.step (f := fun _ => some (l, 0, h)) (fun k => by simp only [spec_l01New.l0]; rw [if_pos (by omega), if_neg c]) (Ev.now _)⟩
theorem new_ev (l : List Int) (hl : l.length ≤ 140737488351232) : ∃ h, Ev (fun k => spec_l01New.f k l) (l, 0, h) := by
  obtain ⟨h, e⟩ := new_loop l hl l.length (wrap64 (94701 + (l.length : Int))) 0 (by omega) (by omega)
  exact ⟨h, e⟩
theorem rd_mem {l : List Int} {P : Int → Prop} (h : ∀ x ∈ l, P x) (i : Int) (h0 : 0 ≤ i) (h1 : i < (l.length : Int)) : P (rd l i) := by
  unfold rd
  rw [List.getD_eq_getElem?_getD, List.getElem?_eq_getElem (by omega)]
  exact h _ (List.getElem_mem _)

theorem once_at (b : List Int) (hb : b.length ≤ 140737488351232) (i h n : Int) (h0 : 0 ≤ i) (h1 : i ≤ (b.length : Int)) (hn : 0 < n) :
    ∃ x i' h', spec_l01Once.f b i h n = some (x, i', h') ∧ 0 ≤ i' ∧ i' ≤ (b.length : Int) := by
  obtain ⟨x, i', h', e, _, _, p, q⟩ := below_at b hb i h n h0 h1 hn
  exact ⟨_, _, _, by unfold spec_l01Once.f; rw [e]; rfl, p, q⟩

/-- What a right picture is. -/
def PicR (w h : Int) (d : ByteArray) : Prop := (1 ≤ w ∧ w ≤ 256) ∧ (1 ≤ h ∧ h ≤ 256) ∧ (d.size : Int) = w * h
instance (w h : Int) (d : ByteArray) : Decidable (PicR w h d) := by unfold PicR; infer_instance
theorem small_mul {w h a b : Int} (h0 : 0 ≤ w) (h1 : w ≤ a) (h2 : 0 ≤ h) (h3 : h ≤ b) : 0 ≤ w * h ∧ w * h ≤ a * b := by
  refine ⟨Int.mul_nonneg h0 h2, ?_⟩
  exact Int.mul_le_mul h1 h3 h2 (by omega)

theorem brought_ev (n lo hi : Int) : Ev (fun k => spec_Brought.f k n lo hi) (mx lo (mn n hi)) := by
  unfold spec_Brought.f
  unfold mx mn
  by_cases c : hi < lo
  · refine Ev.congr (fun k => by rw [if_pos c]) (Ev.step (f := fun _ => some lo) (fun k => by simp only [spec_Brought.j0]; rfl) ?_)
    have e : (if lo < (if hi < n then hi else n) then (if hi < n then hi else n) else lo) = lo := by repeat' split <;> omega
    rw [e]; exact Ev.now _
  · by_cases c2 : n < lo
    · refine Ev.congr (fun k => by rw [if_neg c, show decide (n < lo) = true from decide_eq_true c2]) (Ev.step (f := fun _ => some lo) (fun k => by simp only [spec_Brought.j0]; rfl) ?_)
      have e : (if lo < (if hi < n then hi else n) then (if hi < n then hi else n) else lo) = lo := by repeat' split <;> omega
      rw [e]; exact Ev.now _
    · refine Ev.congr (fun k => by rw [if_neg c, show decide (n < lo) = false from decide_eq_false c2]) (Ev.step (f := fun _ => if n > hi then some hi else some n) (fun k => by simp only [spec_Brought.j0]; rfl) ?_)
      by_cases c3 : n > hi
      · have e : (if lo < (if hi < n then hi else n) then (if hi < n then hi else n) else lo) = hi := by repeat' split <;> omega
        rw [e]; simp only [c3, if_true]; exact Ev.now _
      · have e : (if lo < (if hi < n then hi else n) then (if hi < n then hi else n) else lo) = n := by repeat' split <;> omega
        rw [e]; simp only [c3, if_false]; exact Ev.now _
theorem mx0 {n hi : Int} (h : 0 ≤ hi) : 0 ≤ mx 0 (mn n hi) ∧ mx 0 (mn n hi) ≤ hi := by unfold mx mn; repeat' split <;> omega
def dotv (w h : Int) (d : ByteArray) (x y : Int) : Int := bt d (mx 0 (mn y (h - 1)) * w + mx 0 (mn x (w - 1)))
theorem spot {w h X Y : Int} (hw : 1 ≤ w) (hX : 0 ≤ X ∧ X ≤ w - 1) (hY : 0 ≤ Y ∧ Y ≤ h - 1) : 0 ≤ Y * w ∧ 0 ≤ Y * w + X ∧ Y * w + X < w * h := by
  have h1 : 0 ≤ Y * w := Int.mul_nonneg hY.1 (by omega)
  have h2 : Y * w ≤ (h - 1) * w := Int.mul_le_mul_of_nonneg_right hY.2 (by omega)
  have h3 : (h - 1) * w = w * h - w := by rw [Int.sub_mul, Int.one_mul, Int.mul_comm]
  omega
theorem dotv_range (w h : Int) (d : ByteArray) (x y : Int) : 0 ≤ dotv w h d x y ∧ dotv w h d x y ≤ 255 := bt_range _ _

theorem diffs_loop (b : List Int) (hb : b.length ≤ 140737488351232) (n m : Int) (hn : n ≤ 1000000) (hm : 1 ≤ m ∧ m ≤ 100000) (d : Nat) : ∀ (out : List Int) (i p h : Int), 0 ≤ i → n - i = (d : Int) → (out.length : Int) = i → (∀ y ∈ out, -m ≤ y ∧ y ≤ m) → 0 ≤ p → p ≤ (b.length : Int) →
    ∃ r, Ev (fun k => spec_DrawDiffs.l0 k n m out i b p h) r ∧ (r.length : Int) = n ∧ ∀ y ∈ r, -m ≤ y ∧ y ≤ m := by
  induction d with
  | zero =>
    intro out i p h hi hd ho hx h0 h1
    exact ⟨out, Ev.step (f := fun _ => some out) (fun k => by simp only [spec_DrawDiffs.l0]; rw [if_neg (by omega)]) (Ev.now _), by omega, hx⟩
  | succ d ih =>
    intro out i p h hi hd ho hx h0 h1
    obtain ⟨z, p1, h1', e1, a0, a1⟩ := once_at b hb p h 3 h0 h1 (by omega)
    have g : out.length < 17592186044416 := by omega
    have ei : wrap64 (i + 1) = i + 1 := wrap_id (by omega) (by omega)
    have em : wrap64 (wrap64 (2 * m) + 1) = 2 * m + 1 := by rw [wrap_id (x := 2 * m) (by omega) (by omega), wrap_id (by omega) (by omega)]
    have en : wrap64 (-m) = -m := wrap_id (by omega) (by omega)
    cases z with
    | true =>
      obtain ⟨y, p2, h2', e2, y0, y1, b0, b1⟩ := below_at b hb p1 h1' (2 * m + 1) a0 a1 (by clear ei em en; omega)
      have ey : wrap64 (y - m) = y - m := by clear ei em en; exact wrap_id (by omega) (by omega)
      obtain ⟨r, er, hr⟩ := ih (out ++ [y - m]) (i + 1) p2 h2' (by clear ei em en ey; omega) (by clear ei em en ey; omega) (by clear ei em en ey; rw [List.length_append]; simp; omega) (by
        clear ei em en ey
        intro w hw
        rcases List.mem_append.1 hw with hw | hw
        · exact hx w hw
        · simp at hw; omega) b0 b1
      refine ⟨r, Ev.step (fun k => ?_) er, hr⟩
      simp only [spec_DrawDiffs.l0]
      rw [if_pos (by clear ei em en ey; omega), e1, Option.bind_some, if_pos rfl, em, e2, Option.bind_some, if_pos g, ey, ei]
    | false =>
      obtain ⟨y, p2, h2', e2, y0, y1, b0, b1⟩ := below_at b hb p1 h1' 21 a0 a1 (by omega)
      have ey : wrap64 (y - 10) = y - 10 := by clear ei em en; exact wrap_id (by omega) (by omega)
      have hbr := brought_ev (y - 10) (-m) m
      have hv : -m ≤ mx (-m) (mn (y - 10) m) ∧ mx (-m) (mn (y - 10) m) ≤ m := by
        clear ei em en ey
        unfold mx mn
        repeat' split
        all_goals omega
      generalize mx (-m) (mn (y - 10) m) = v at hbr hv
      obtain ⟨r, er, hr⟩ := ih (out ++ [v]) (i + 1) p2 h2' (by clear ei em en ey; omega) (by clear ei em en ey; omega) (by clear ei em en ey; rw [List.length_append]; simp; omega) (by
        clear ei em en ey
        intro w hw
        rcases List.mem_append.1 hw with hw | hw
        · exact hx w hw
        · simp at hw; omega) b0 b1
      refine ⟨r, Ev.step (f := fun k => (spec_Brought.f k (y - 10) (-m) m).bind fun t => if out.length < 17592186044416 then spec_DrawDiffs.l0 k n m (out ++ [t]) (i + 1) b p2 h2' else none) (fun k => ?_) (Ev.bind hbr ?_), hr⟩
      · simp only [spec_DrawDiffs.l0]
        rw [if_pos (by clear ei em en ey; omega), e1, Option.bind_some, if_neg (by simp), e2, Option.bind_some, ey, en, ei]
      · simp only [g, if_true]
        exact er
theorem drawdiffs_ev (l : List Int) (hl : l.length ≤ 140737488351232) (n : Nat) (m : Int) (hn : n ≤ 1000000) (hm : 1 ≤ m ∧ m ≤ 100000) : ∃ r, Ev (fun k => spec_DrawDiffs.f k l (n : Int) m) r ∧ r.length = n ∧ ∀ y ∈ r, -m ≤ y ∧ y ≤ m := by
  obtain ⟨h, e⟩ := new_ev l hl
  obtain ⟨r, er, hr, hx⟩ := diffs_loop l hl (n : Int) m (by omega) hm n [] 0 0 h (by omega) (by omega) rfl (by simp) (by omega) (by omega)
  refine ⟨r, ?_, by omega, hx⟩
  unfold spec_DrawDiffs.f
  exact Ev.bind e er

theorem same_ev (a b : List Int) (ha : a.length ≤ 17592186043904) : Ev (fun k => laws_sameInts.f k a b) (decide (a = b)) := by
  by_cases hl : a.length = b.length
  · have H : ∀ i, i ≤ a.length → Ev (fun k => laws_sameInts.l0 k a b (i : Int)) (decide (a.drop i = b.drop i)) := by
      refine down a.length ?_ ?_
      · refine Ev.step (f := fun _ => some true) (fun k => ?_) ?_
        · simp only [laws_sameInts.l0]
          rw [if_neg (by omega)]
        · rw [show decide (a.drop a.length = b.drop a.length) = true by rw [hl]; simp [← hl]]; exact Ev.now _
      · intro i hi h
        have hb : i < b.length := by omega
        by_cases c : a[i] = b[i]
        · have e : decide (a.drop i = b.drop i) = decide (a.drop (i + 1) = b.drop (i + 1)) := by
            rw [decide_eq_decide, drop_cons hi, drop_cons hb, c, List.cons.injEq]; simp only [true_and]
          rw [e]
          refine Ev.step (fun k => ?_) h
          simp only [laws_sameInts.l0]
          rw [if_pos (by omega), if_pos (by omega), if_pos (by omega), rd_nat a i hi, rd_nat b i hb, if_pos c, wrap_id (by omega) (by omega), cast1]
        · have e : decide (a.drop i = b.drop i) = false := by
            rw [decide_eq_false_iff_not, drop_cons hi, drop_cons hb, List.cons.injEq]; exact fun h => c h.1
          rw [e]
          refine Ev.step (f := fun _ => some false) (fun k => ?_) (Ev.now _)
          simp only [laws_sameInts.l0]
          rw [if_pos (by omega), if_pos (by omega), if_pos (by omega), rd_nat a i hi, rd_nat b i hb, if_neg c]
    have h0 := H 0 (by omega)
    unfold laws_sameInts.f
    refine Ev.congr (fun k => ?_) h0
    rw [if_pos (by omega)]; rfl
  · unfold laws_sameInts.f
    rw [show decide (a = b) = false from decide_eq_false (fun h => hl (by rw [h]))]
    refine Ev.congr (f := fun _ => some false) (fun k => ?_) (Ev.now _)
    rw [if_neg (by omega)]
theorem sameSelf_ev (a : List Int) (ha : a.length ≤ 17592186043904) : Ev (fun k => laws_sameInts.f k a a) true := by
  have h := same_ev a a ha
  rwa [decide_eq_true rfl] at h

theorem settled_back (x : List Int) : settledL (x.map fun v => 64 * v) = x := by
  unfold settledL
  rw [List.map_map]
  conv => rhs; rw [← List.map_id x]
  apply List.map_congr_left
  intro v _
  show down64 (64 * v) = v
  unfold down64
  omega
theorem FnEights : laws_FnEights.Pure := by
  intro l _ hl _
  refine Ev.rounds ?_
  unfold laws_FnEights.f laws_big.f
  simp only [Option.bind_some]
  by_cases c : (l.length : Int) > 1048576
  · simp only [c, decide_true, if_true]; exact Ev.now _
  · simp only [c, decide_false, Bool.false_eq_true, if_false]
    obtain ⟨x, ex, hx, hb⟩ := drawdiffs_ev l (by omega) 64 1000 (by omega) (by omega)
    have hall : allB (-1000) 1000 x = true := allB_iff.2 hb
    have hw := sumsv_len x
    have hwa := allB_iff.1 (sumsv_all hx hall)
    have eE := eight_ev x (by omega)
    rw [if_pos ⟨hx, hall⟩] at eE
    have hbo : EbOk (sumsv x) := ⟨hw, allB_iff.2 fun v hv => by have := hwa v hv; omega⟩
    have eB := eightback_ev (sumsv x) (by omega)
    unfold ebv at eB
    rw [if_pos hbo, sumsv_twice x hx, settled_back] at eB
    have eS := sameSelf_ev x (by omega)
    have w1 : WOk (sumsv x) := ⟨by omega, allB_iff.2 fun v hv => by have := hwa v hv; omega⟩
    have w2 : WOk x := ⟨by omega, allB_iff.2 fun v hv => by have := hb v hv; omega⟩
    have eW := weight_ev (sumsv x) (by omega)
    rw [if_pos w1, wsum_sq (by omega) (fun v hv => by have := hwa v hv; omega), sqL_turn x hx] at eW
    have eX := weight_ev x (by omega)
    have hpl := wsum_plain x 0 (fun v hv => by have := hb v hv; omega) (by omega) (by omega)
    rw [if_pos w2, wsum_sq (by omega) (fun v hv => by have := hb v hv; omega)] at eX
    have hnn := sqL_nonneg x
    have hub : sqN x ≤ 64000000000000 := by
      unfold sqN
      have := sm_bound (fun i => rd x (i : Int) * rd x (i : Int)) 1000000000000 x.length (fun k hk => by
        have h1 := sq_in (B := 1000) (x := rd x (k : Int)) (by rw [rd_nat x k hk]; exact hb _ (List.getElem_mem _))
        omega)
      omega
    have g1 : ([] : List Int).length + x.length < 17592186044416 := by simp; omega
    have g2 : ([] : List Int).length + (sumsv x).length < 17592186044416 := by simp; omega
    have g3 : ((sumsv x).length : Int) = 64 := by omega
    have g4 : wrap64 (64 * sqN x) = 64 * sqN x := wrap_id (by omega) (by omega)
    have g5 : decide (sqN x ≥ 0) = true := decide_eq_true hnn
    have ex' : Ev (fun k => spec_DrawDiffs.f k l 64 1000) x := ex
    refine Ev.bind ex' ?_
    simp only [Option.bind_some, g1, if_true, List.nil_append]
    refine Ev.bind eE ?_
    simp only [g2, if_true, g3]
    refine Ev.bind eB (Ev.bind eS ?_)
    simp only [if_true]
    refine Ev.bind eW (Ev.bind eX ?_)
    simp only [g4, if_true]
    refine Ev.bind eX ?_
    simp only [g5]
    exact Ev.now _

end Go.Proofs.Ytlmlkoalicjlhaa.Pure
