/- The program's EightBack answers what the reference's EightBack answers, for all lists, in new memory, and leaves its argument as it was. No condition beside the row's own. -/
import Derived.Test.YthoifppjjdmoaaaQFnExactEightBackx5
namespace Go.Proofs.Ythoifppjjdmoaaa.Pure
open Go.RowKit Go.Proofs.Ythoifppjjdmoaaa.QFnExactEightBack Go.Proofs.YthoifppjjdmoaaaW.PrintWords Go.Proofs.YthoifppjjdmoaaaW.PrintLast Go.Proofs.YthoifppjjdmoaaaW.PrintMore
set_option linter.unusedVariables false
set_option linter.unusedSimpArgs false

theorem wrap_id {x : Int} (h0 : -9223372036854775808 ≤ x) (h1 : x ≤ 9223372036854775807) : wrap64 x = x := by
  unfold wrap64
  omega
theorem wf64 {n : Int} (h : (Lit.int .i64 n).wf = true) : -9223372036854775808 ≤ n ∧ n ≤ 9223372036854775807 := by
  simp [Lit.wf, IntKind.min, IntKind.max, IntKind.signed, IntKind.bits] at h
  omega
theorem wfu8 {n : Int} (h : (Lit.int .u8 n).wf = true) : 0 ≤ n ∧ n ≤ 255 := by
  simp [Lit.wf, IntKind.min, IntKind.max, IntKind.signed, IntKind.bits] at h
  omega
theorem within_eq (a b c : Int) : impl_within.f a b c = some (decide (b ≤ a ∧ a ≤ c)) := by
  unfold impl_within.f
  by_cases h : a ≥ b
  · rw [if_pos h]; congr 1; rw [decide_eq_decide]; omega
  · rw [if_neg h]; congr 1; symm; rw [decide_eq_false_iff_not]; omega
theorem in_eq (a b c : Int) : spec_l01In.f a b c = some (decide (b ≤ a ∧ a ≤ c)) := by
  unfold spec_l01In.f
  by_cases h : a ≥ b
  · rw [if_pos h]; congr 1; rw [decide_eq_decide]; omega
  · rw [if_neg h]; congr 1; symm; rw [decide_eq_false_iff_not]; omega

theorem down {P : Nat → Prop} (n : Nat) (h0 : P n) (hs : ∀ i, i < n → P (i + 1) → P i) : ∀ i, i ≤ n → P i := by
  intro i hi
  obtain ⟨d, hd⟩ : ∃ d, d = n - i := ⟨_, rfl⟩
  induction d generalizing i with
  | zero =>
    have : i = n := by omega
    subst this; exact h0
  | succ d ih => exact hs i (by omega) (ih (i + 1) (by omega) (by omega))
theorem rd_nat (l : List Int) (i : Nat) (h : i < l.length) : rd l (i : Int) = l[i] := by
  unfold rd
  rw [List.getD_eq_getElem?_getD, Int.toNat_natCast, List.getElem?_eq_getElem h]; rfl
theorem cast1 (i : Nat) : ((i : Nat) : Int) + 1 = ((i + 1 : Nat) : Int) := rfl
theorem mix_set {α : Type} (l z : List α) (i : Nat) (hi : i < l.length) (hz : i < z.length) : (l.take i ++ z.drop i).set i l[i] = l.take (i + 1) ++ z.drop (i + 1) := by
  rw [List.set_append_right _ _ (by simp; omega)]
  rw [show i - (l.take i).length = 0 by simp; omega]
  rw [List.drop_eq_getElem_cons hz, List.set_cons_zero, List.take_succ_eq_append_getElem hi, List.append_assoc]; rfl
theorem mix_length {α : Type} (l z : List α) (i : Nat) (h : l.length = z.length) (hi : i ≤ l.length) : (l.take i ++ z.drop i).length = l.length := by
  simp; omega
theorem mix_end {α : Type} (l z : List α) (h : l.length = z.length) : l.take l.length ++ z.drop l.length = l := by
  rw [List.take_length, h, List.drop_length, List.append_nil]
theorem mix_zero {α : Type} (l z : List α) : l.take 0 ++ z.drop 0 = z := by simp
theorem drop_cons {α : Type} {l : List α} {i : Nat} (h : i < l.length) : l.drop i = l[i] :: l.drop (i + 1) := List.drop_eq_getElem_cons h
theorem toInts_ev (l : List Int) (hl : l.length ≤ 17592186043904) : Ev (fun k => laws_toIntS.f k l) l := by
  have H : ∀ i, i ≤ l.length → Ev (fun k => laws_toIntS.l0 k l (l.take i ++ (List.replicate l.length (0 : Int)).drop i) (i : Int)) l := by
    refine down l.length ?_ ?_
    · refine Ev.step (f := fun _ => some l) (fun k => ?_) (Ev.now _)
      simp only [laws_toIntS.l0]
      rw [if_neg (by omega), mix_end _ _ (by simp)]
    · intro i hi h
      refine Ev.step (fun k => ?_) h
      simp only [laws_toIntS.l0]
      rw [if_pos (by omega), if_pos (by omega), if_pos (by rw [mix_length _ _ _ (by simp) (by omega)]; omega), rd_nat l i hi, Int.toNat_natCast, mix_set _ _ _ hi (by simp; exact hi), wrap_id (by omega) (by omega), cast1]
  have h0 := H 0 (by omega)
  rw [mix_zero] at h0
  unfold laws_toIntS.f
  refine Ev.congr (fun k => ?_) h0
  rw [if_pos (by omega), if_pos (by simp; omega), Int.toNat_natCast]; rfl
theorem eqInts_ev (a b : List Int) (ha : a.length ≤ 17592186043904) : Ev (fun k => laws_eqIntS.f k a b) (decide (a = b)) := by
  by_cases hl : a.length = b.length
  · have H : ∀ i, i ≤ a.length → Ev (fun k => laws_eqIntS.l0 k a b (i : Int)) (decide (a.drop i = b.drop i)) := by
      refine down a.length ?_ ?_
      · refine Ev.step (f := fun _ => some true) (fun k => ?_) ?_
        · simp only [laws_eqIntS.l0]
          rw [if_neg (by omega)]
        · rw [show decide (a.drop a.length = b.drop a.length) = true by rw [hl]; simp [← hl]]; exact Ev.now _
      · intro i hi h
        have hb : i < b.length := by omega
        by_cases c : a[i] = b[i]
        · have e : decide (a.drop i = b.drop i) = decide (a.drop (i + 1) = b.drop (i + 1)) := by
            rw [decide_eq_decide, drop_cons hi, drop_cons hb, c, List.cons.injEq]; simp only [true_and]
          rw [e]
          refine Ev.step (fun k => ?_) h
          simp only [laws_eqIntS.l0]
          rw [if_pos (by omega), if_pos (by omega), if_pos (by omega), rd_nat a i hi, rd_nat b i hb, if_pos c, wrap_id (by omega) (by omega), cast1]
        · have e : decide (a.drop i = b.drop i) = false := by
            rw [decide_eq_false_iff_not, drop_cons hi, drop_cons hb, List.cons.injEq]; exact fun h => c h.1
          rw [e]
          refine Ev.step (f := fun _ => some false) (fun k => ?_) (Ev.now _)
          simp only [laws_eqIntS.l0]
          rw [if_pos (by omega), if_pos (by omega), if_pos (by omega), rd_nat a i hi, rd_nat b i hb, if_neg c]
    have h0 := H 0 (by omega)
    unfold laws_eqIntS.f
    refine Ev.congr (fun k => ?_) h0
    rw [if_pos (by omega)]; rfl
  · unfold laws_eqIntS.f
    rw [show decide (a = b) = false from decide_eq_false (fun h => hl (by rw [h]))]
    refine Ev.congr (f := fun _ => some false) (fun k => ?_) (Ev.now _)
    rw [if_neg (by omega)]
/-- All numbers of a list are from lo to hi. -/
def allB (lo hi : Int) (l : List Int) : Bool := l.all fun x => decide (lo ≤ x ∧ x ≤ hi)
theorem allB_cons (lo hi x : Int) (l : List Int) : allB lo hi (x :: l) = (decide (lo ≤ x ∧ x ≤ hi) && allB lo hi l) := rfl
theorem allB_iff {lo hi : Int} {l : List Int} : allB lo hi l = true ↔ ∀ x ∈ l, lo ≤ x ∧ x ≤ hi := by
  unfold allB
  rw [List.all_eq_true]
  simp only [decide_eq_true_eq]
theorem areIn_ev (l : List Int) (n lo hi : Int) (hl : l.length ≤ 17592186043904) : Ev (fun k => impl_areIn.f k l n lo hi) (decide ((l.length : Int) = n) && allB lo hi l) := by
  have H : ∀ i, i ≤ l.length → Ev (fun k => impl_areIn.l0 k l n lo hi l (l.length : Int) (i : Int)) (decide ((l.length : Int) = n) && allB lo hi (l.drop i)) := by
    refine down l.length ?_ ?_
    · refine Ev.step (f := fun _ => some (decide ((l.length : Int) = n))) (fun k => ?_) ?_
      · simp only [impl_areIn.l0]
        rw [if_neg (by omega)]; congr 1
      · rw [List.drop_length]; simp only [allB, List.all_nil, Bool.and_true]; exact Ev.now _
    · intro i h1 h
      rw [drop_cons h1, allB_cons]
      by_cases c : lo ≤ l[i] ∧ l[i] ≤ hi
      · rw [decide_eq_true c, Bool.true_and]
        refine Ev.step (fun k => ?_) h
        simp only [impl_areIn.l0]
        rw [if_pos (by omega), if_pos (by omega), if_pos (by omega), rd_nat l i h1, within_eq, Option.bind_some, if_pos (decide_eq_true c), wrap_id (by omega) (by omega), cast1]
      · rw [decide_eq_false c, Bool.false_and, Bool.and_false]
        refine Ev.step (f := fun _ => some false) (fun k => ?_) (Ev.now _)
        simp only [impl_areIn.l0]
        rw [if_pos (by omega), if_pos (by omega), if_pos (by omega), rd_nat l i h1, within_eq, Option.bind_some, if_neg (by simpa using c)]
  exact H 0 (by omega)
theorem all_ev (l : List Int) (n m : Int) (hl : l.length ≤ 17592186043904) (hm : 0 ≤ m) (hm' : m ≤ 1000000000) : Ev (fun k => spec_l09All.f k l n m) (decide ((l.length : Int) = n) && allB (-m) m l) := by
  unfold spec_l09All.f
  by_cases hn : (l.length : Int) = n
  · subst hn
    have H : ∀ i, i ≤ l.length → Ev (fun k => spec_l09All.l0 k l (l.length : Int) m (i : Int)) (allB (-m) m (l.drop i)) := by
      refine down l.length ?_ ?_
      · refine Ev.step (f := fun _ => some true) (fun k => ?_) ?_
        · simp only [spec_l09All.l0]
          rw [if_neg (by omega)]
        · rw [List.drop_length]; exact Ev.now _
      · intro i h1 h
        rw [drop_cons h1, allB_cons]
        by_cases c : -m ≤ l[i] ∧ l[i] ≤ m
        · rw [decide_eq_true c, Bool.true_and]
          refine Ev.step (fun k => ?_) h
          simp only [spec_l09All.l0]
          rw [if_pos (by omega), if_pos (by omega), if_pos (by omega), rd_nat l i h1, wrap_id (x := -m) (by omega) (by omega), in_eq, Option.bind_some, if_pos (decide_eq_true c), wrap_id (by omega) (by omega), cast1]
        · rw [decide_eq_false c, Bool.false_and]
          refine Ev.step (f := fun _ => some false) (fun k => ?_) (Ev.now _)
          simp only [spec_l09All.l0]
          rw [if_pos (by omega), if_pos (by omega), if_pos (by omega), rd_nat l i h1, wrap_id (x := -m) (by omega) (by omega), in_eq, Option.bind_some, if_neg (by simpa using c)]
    refine Ev.congr (fun k => by rw [if_pos rfl]) ?_
    rw [decide_eq_true rfl, Bool.true_and]
    exact H 0 (by omega)
  · rw [decide_eq_false hn, Bool.false_and]
    exact Ev.congr (f := fun _ => some false) (fun k => by rw [if_neg hn]) (Ev.now _)

def sg (u k : Nat) : Int := if (u % 2 * (k % 2) + u / 2 % 2 * (k / 2 % 2) + u / 4 % 2 * (k / 4 % 2)) % 2 = 0 then 1 else -1
theorem sg_one (u k : Nat) : sg u k = 1 ∨ sg u k = -1 := by unfold sg; split <;> simp
/-- The sum of f 0 .. f (n - 1). -/
def sm (f : Nat → Int) : Nat → Int
  | 0 => 0
  | n + 1 => sm f n + f n
theorem sm_bound (f : Nat → Int) (B : Int) (n : Nat) (h : ∀ k, k < n → -B ≤ f k ∧ f k ≤ B) : -((n : Int) * B) ≤ sm f n ∧ sm f n ≤ (n : Int) * B := by
  induction n with
  | zero => simp [sm]
  | succ n ih =>
    have h1 := ih (fun k hk => h k (by omega))
    have h2 := h n (by omega)
    have e : ((n + 1 : Nat) : Int) * B = (n : Int) * B + B := by rw [show ((n + 1 : Nat) : Int) = (n : Int) + 1 from rfl, Int.add_mul, Int.one_mul]
    simp only [sm]; rw [e]; omega
theorem sgmul_bound {B x : Int} (u k : Nat) (h : -B ≤ x ∧ x ≤ B) : -B ≤ sg u k * x ∧ sg u k * x ≤ B := by
  rcases sg_one u k with e | e <;> rw [e] <;> omega
def halfAt (x : List Int) (i : Nat) (k : Nat) : Int := sg (i % 8) k * rd x ((8 * (i / 8) + k : Nat) : Int)
def halfv (x : List Int) : List Int := (List.range 64).map fun i => sm (halfAt x i) 8
def outAt (h : List Int) (i : Nat) (j : Nat) : Int := sg (i / 8) j * rd h ((8 * j + i % 8 : Nat) : Int)
def sums2 (h : List Int) : List Int := (List.range 64).map fun i => sm (outAt h i) 8
def sumsv (x : List Int) : List Int := sums2 (halfv x)
theorem halfv_len (x : List Int) : (halfv x).length = 64 := by simp [halfv]
theorem sums2_len (x : List Int) : (sums2 x).length = 64 := by simp [sums2]
theorem sumsv_len (x : List Int) : (sumsv x).length = 64 := sums2_len _
theorem halfv_get (x : List Int) (i : Nat) (h : i < (halfv x).length) : (halfv x)[i] = sm (halfAt x i) 8 := by simp [halfv]
theorem sums2_get (x : List Int) (i : Nat) (h : i < (sums2 x).length) : (sums2 x)[i] = sm (outAt x i) 8 := by simp [sums2]
theorem allB_at {lo hi : Int} {l : List Int} (h : allB lo hi l = true) (i : Nat) (hi' : i < l.length) : lo ≤ rd l (i : Int) ∧ rd l (i : Int) ≤ hi := by
  rw [rd_nat l i hi']; exact allB_iff.1 h _ (List.getElem_mem _)
theorem half_bound {x : List Int} {M : Int} (hx : x.length = 64) (h : allB (-M) M x = true) (i : Nat) (hi : i < 64) (n : Nat) (hn : n ≤ 8) : -((n : Int) * M) ≤ sm (halfAt x i) n ∧ sm (halfAt x i) n ≤ (n : Int) * M :=
  sm_bound _ M n fun k hk => sgmul_bound _ _ (allB_at h _ (by omega))
theorem halfv_all {x : List Int} {M : Int} (hx : x.length = 64) (h : allB (-M) M x = true) : allB (-(8 * M)) (8 * M) (halfv x) = true := by
  rw [allB_iff]
  intro v hv
  obtain ⟨i, hi, rfl⟩ := List.mem_iff_getElem.1 hv
  rw [halfv_get]
  have := half_bound hx h i (by rw [halfv_len] at hi; exact hi) 8 (by omega)
  omega
theorem out_bound {x : List Int} {M : Int} (hx : x.length = 64) (h : allB (-M) M x = true) (i : Nat) (hi : i < 64) (n : Nat) (hn : n ≤ 8) : -((n : Int) * M) ≤ sm (outAt x i) n ∧ sm (outAt x i) n ≤ (n : Int) * M :=
  sm_bound _ M n fun k hk => sgmul_bound _ _ (allB_at h _ (by omega))
theorem sums2_all {x : List Int} {M : Int} (hx : x.length = 64) (h : allB (-M) M x = true) : allB (-(8 * M)) (8 * M) (sums2 x) = true := by
  rw [allB_iff]
  intro v hv
  obtain ⟨i, hi, rfl⟩ := List.mem_iff_getElem.1 hv
  rw [sums2_get]
  have := out_bound hx h i (by rw [sums2_len] at hi; exact hi) 8 (by omega)
  omega
theorem sumsv_all {x : List Int} {M : Int} (hx : x.length = 64) (h : allB (-M) M x = true) : allB (-(64 * M)) (64 * M) (sumsv x) = true := by
  have h2 := sums2_all (halfv_len x) (halfv_all hx h)
  rw [show 8 * (8 * M) = 64 * M by omega] at h2
  exact h2
/-- The first p of l, then noughts, 64 in all. -/
def fillB (l : List Int) (p : Nat) : List Int := l.take p ++ (List.replicate 64 (0 : Int)).drop p
theorem fill_len (l : List Int) (hl : l.length = 64) (p : Nat) (hp : p ≤ 64) : (fillB l p).length = 64 := by
  unfold fillB; rw [mix_length _ _ _ (by simp [hl]) (by omega)]; exact hl
theorem fill_set0 (l : List Int) (hl : l.length = 64) (p : Nat) (hp : p < 64) : (fillB l p).set p 0 = fillB l p := by
  have e : fillB l p = l.take p ++ (0 :: (List.replicate 64 (0 : Int)).drop (p + 1)) := by
    unfold fillB
    rw [List.drop_eq_getElem_cons (by simp; omega), List.getElem_replicate]
  rw [e, List.set_append_right _ _ (by simp; omega), show p - (l.take p).length = 0 by simp; omega, List.set_cons_zero]
theorem fill_set1 (l : List Int) (hl : l.length = 64) (p : Nat) (hp : p < 64) : (fillB l p).set p (l[p]'(by omega)) = fillB l (p + 1) := mix_set l _ p (by omega) (by simp; omega)
theorem fill_rd (l : List Int) (hl : l.length = 64) (p : Nat) (hp : p < 64) (y : Int) : rd ((fillB l p).set p y) (p : Int) = y := by
  rw [rd_nat _ p (by rw [List.length_set, fill_len l hl p (by omega)]; exact hp), List.getElem_set_self]
theorem fill_end (l : List Int) (hl : l.length = 64) : fillB l 64 = l := by
  have := mix_end l (List.replicate 64 (0 : Int)) (by simp [hl])
  rw [hl] at this; exact this
theorem idx8 (r v : Nat) (hr : r < 8) (hv : v < 8) : wrap64 (wrap64 (8 * (r : Int)) + (v : Int)) = ((8 * r + v : Nat) : Int) := by
  rw [wrap_id (x := 8 * (r : Int)) (by omega) (by omega), wrap_id (by omega) (by omega)]; omega
theorem sign_fin : ∀ i j : Fin 8, impl_SignOf.f 3 (i.val : Int) (j.val : Int) = some (sg i.val j.val) := by decide +kernel
theorem sign_ev (u k : Nat) (hu : u < 8) (hk : k < 8) : Ev (fun n => impl_SignOf.f n (u : Int) (k : Int)) (sg u k) := Ev.of (fun n => impl_SignOf.mono _ _ _) (sign_fin ⟨u, hu⟩ ⟨k, hk⟩)
theorem ssign_fin : ∀ i j : Fin 8, spec_SignOf.f 12 (i.val : Int) (j.val : Int) = some (sg i.val j.val) := by decide +kernel
theorem ssign_ev (u k : Nat) (hu : u < 8) (hk : k < 8) : Ev (fun n => spec_SignOf.f n (u : Int) (k : Int)) (sg u k) := Ev.of (fun n => spec_SignOf.mono _ _ _) (ssign_fin ⟨u, hu⟩ ⟨k, hk⟩)
theorem sums_l2 (x : List Int) (hx : x.length = 64) (M : Int) (hM : M ≤ 1000000000) (hb : allB (-M) M x = true) (r v : Nat) (hr : r < 8) (hv : v < 8) (R : List Int)
    (hh : Ev (fun k => impl_sums.l1 k x (fillB (halfv x) (8 * r + v + 1)) (r : Int) (r : Int) ((v + 1 : Nat) : Int)) R) :
    ∀ m : Nat, m ≤ 8 → Ev (fun k => impl_sums.l2 k x ((fillB (halfv x) (8 * r + v)).set (8 * r + v) (sm (halfAt x (8 * r + v)) m)) (r : Int) (v : Int) (r : Int) (v : Int) (m : Int)) R := by
  have hl := halfv_len x
  refine down 8 ?_ ?_
  · refine Ev.step (fun k => ?_) hh
    simp only [impl_sums.l2]
    rw [if_neg (by omega), ← halfv_get x (8 * r + v) (by omega), fill_set1 _ hl _ (by omega), wrap_id (by omega) (by omega), cast1]
  · intro m hm h'
    have b1 := half_bound hx hb (8 * r + v) (by omega) m (by omega)
    have b2 : -M ≤ sg v m * rd x ((8 * r + m : Nat) : Int) ∧ sg v m * rd x ((8 * r + m : Nat) : Int) ≤ M := sgmul_bound _ _ (allB_at hb _ (by omega))
    have b3 : (m : Int) * M ≤ 8 * 1000000000 ∧ 0 ≤ (m : Int) * M := by
      have h0 : 0 ≤ M := by omega
      exact ⟨Int.mul_le_mul (by omega) hM h0 (by omega), Int.mul_nonneg (by omega) h0⟩
    have e : sm (halfAt x (8 * r + v)) (m + 1) = sm (halfAt x (8 * r + v)) m + sg v m * rd x ((8 * r + m : Nat) : Int) := by
      simp only [sm, halfAt]
      rw [show (8 * r + v) % 8 = v by omega, show (8 * r + v) / 8 = r by omega]
    refine Ev.step (f := fun k => (impl_SignOf.f k (v : Int) (m : Int)).bind fun t => impl_sums.l2 k x (((fillB (halfv x) (8 * r + v)).set (8 * r + v) (sm (halfAt x (8 * r + v)) m)).set (8 * r + v) (wrap64 (sm (halfAt x (8 * r + v)) m + wrap64 (t * rd x ((8 * r + m : Nat) : Int))))) (r : Int) (v : Int) (r : Int) (v : Int) ((m + 1 : Nat) : Int)) (fun k => ?_) (Ev.bind (sign_ev v m hv hm) ?_)
    · simp only [impl_sums.l2]
      rw [if_pos (by omega), idx8 r v hr hv, idx8 r m hr hm, if_pos (by omega), if_pos (by rw [List.length_set, fill_len _ hl _ (by omega)]; omega), fill_rd _ hl _ (by omega), wrap_id (x := (m : Int) + 1) (by omega) (by omega), cast1]
      congr 1
      funext t
      rw [if_pos (by omega), if_pos (by omega), Int.toNat_natCast]
    · rw [List.set_set, wrap_id (x := sg v m * _) (by omega) (by omega), wrap_id (by omega) (by omega), ← e]
      exact h'
theorem sums_l1 (x : List Int) (hx : x.length = 64) (M : Int) (hM : M ≤ 1000000000) (hb : allB (-M) M x = true) (r : Nat) (hr : r < 8) (R : List Int)
    (hh : Ev (fun k => impl_sums.l0 k x (fillB (halfv x) (8 * (r + 1))) ((r + 1 : Nat) : Int)) R) :
    ∀ v : Nat, v ≤ 8 → Ev (fun k => impl_sums.l1 k x (fillB (halfv x) (8 * r + v)) (r : Int) (r : Int) (v : Int)) R := by
  refine down 8 ?_ ?_
  · refine Ev.step (fun k => ?_) hh
    simp only [impl_sums.l1]
    rw [if_neg (by omega), wrap_id (by omega) (by omega), cast1]; rfl
  · intro v hv h'
    refine Ev.step (fun k => ?_) (sums_l2 x hx M hM hb r v hr hv R h' 0 (by omega))
    simp only [impl_sums.l1]
    rw [if_pos (by omega), sm, fill_set0 _ (halfv_len x) _ (by omega)]; rfl
theorem sums_l0 (x : List Int) (hx : x.length = 64) (M : Int) (hM : M ≤ 1000000000) (hb : allB (-M) M x = true) (R : List Int)
    (hh : Ev (fun k => impl_sums.l3 k (halfv x) (List.replicate 64 0) 0) R) :
    ∀ r : Nat, r ≤ 8 → Ev (fun k => impl_sums.l0 k x (fillB (halfv x) (8 * r)) (r : Int)) R := by
  refine down 8 ?_ ?_
  · refine Ev.step (fun k => ?_) hh
    simp only [impl_sums.l0]
    rw [if_neg (by omega), if_pos (by decide), fill_end _ (halfv_len x)]
  · intro r hr h'
    refine Ev.step (fun k => ?_) (sums_l1 x hx M hM hb r hr R h' 0 (by omega))
    simp only [impl_sums.l0]
    rw [if_pos (by omega)]; rfl
theorem sums_l5 (x : List Int) (hx : x.length = 64) (M : Int) (hM : M ≤ 1000000000) (hb : allB (-M) M x = true) (r v : Nat) (hr : r < 8) (hv : v < 8) (R : List Int)
    (hh : Ev (fun k => impl_sums.l4 k x (fillB (sums2 x) (8 * r + v + 1)) (r : Int) (r : Int) ((v + 1 : Nat) : Int)) R) :
    ∀ m : Nat, m ≤ 8 → Ev (fun k => impl_sums.l5 k x ((fillB (sums2 x) (8 * r + v)).set (8 * r + v) (sm (outAt x (8 * r + v)) m)) (r : Int) (v : Int) (r : Int) (v : Int) (m : Int)) R := by
  have hl := sums2_len x
  refine down 8 ?_ ?_
  · refine Ev.step (fun k => ?_) hh
    simp only [impl_sums.l5]
    rw [if_neg (by omega), ← sums2_get x (8 * r + v) (by omega), fill_set1 _ hl _ (by omega), wrap_id (by omega) (by omega), cast1]
  · intro m hm h'
    have b1 := out_bound hx hb (8 * r + v) (by omega) m (by omega)
    have b2 : -M ≤ sg r m * rd x ((8 * m + v : Nat) : Int) ∧ sg r m * rd x ((8 * m + v : Nat) : Int) ≤ M := sgmul_bound _ _ (allB_at hb _ (by omega))
    have b3 : (m : Int) * M ≤ 8 * 1000000000 ∧ 0 ≤ (m : Int) * M := by
      have h0 : 0 ≤ M := by omega
      exact ⟨Int.mul_le_mul (by omega) hM h0 (by omega), Int.mul_nonneg (by omega) h0⟩
    have e : sm (outAt x (8 * r + v)) (m + 1) = sm (outAt x (8 * r + v)) m + sg r m * rd x ((8 * m + v : Nat) : Int) := by
      simp only [sm, outAt]
      rw [show (8 * r + v) % 8 = v by omega, show (8 * r + v) / 8 = r by omega]
    refine Ev.step (f := fun k => (impl_SignOf.f k (r : Int) (m : Int)).bind fun t => impl_sums.l5 k x (((fillB (sums2 x) (8 * r + v)).set (8 * r + v) (sm (outAt x (8 * r + v)) m)).set (8 * r + v) (wrap64 (sm (outAt x (8 * r + v)) m + wrap64 (t * rd x ((8 * m + v : Nat) : Int))))) (r : Int) (v : Int) (r : Int) (v : Int) ((m + 1 : Nat) : Int)) (fun k => ?_) (Ev.bind (sign_ev r m hr hm) ?_)
    · simp only [impl_sums.l5]
      rw [if_pos (by omega), idx8 r v hr hv, idx8 m v hm hv, if_pos (by omega), if_pos (by rw [List.length_set, fill_len _ hl _ (by omega)]; omega), fill_rd _ hl _ (by omega), wrap_id (x := (m : Int) + 1) (by omega) (by omega), cast1]
      congr 1
      funext t
      rw [if_pos (by omega), if_pos (by omega), Int.toNat_natCast]
    · rw [List.set_set, wrap_id (x := sg r m * _) (by omega) (by omega), wrap_id (by omega) (by omega), ← e]
      exact h'
theorem sums_l4 (x : List Int) (hx : x.length = 64) (M : Int) (hM : M ≤ 1000000000) (hb : allB (-M) M x = true) (r : Nat) (hr : r < 8) (R : List Int)
    (hh : Ev (fun k => impl_sums.l3 k x (fillB (sums2 x) (8 * (r + 1))) ((r + 1 : Nat) : Int)) R) :
    ∀ v : Nat, v ≤ 8 → Ev (fun k => impl_sums.l4 k x (fillB (sums2 x) (8 * r + v)) (r : Int) (r : Int) (v : Int)) R := by
  refine down 8 ?_ ?_
  · refine Ev.step (fun k => ?_) hh
    simp only [impl_sums.l4]
    rw [if_neg (by omega), wrap_id (by omega) (by omega), cast1]; rfl
  · intro v hv h'
    refine Ev.step (fun k => ?_) (sums_l5 x hx M hM hb r v hr hv R h' 0 (by omega))
    simp only [impl_sums.l4]
    rw [if_pos (by omega), sm, fill_set0 _ (sums2_len x) _ (by omega)]; rfl
theorem sums_l3 (x : List Int) (hx : x.length = 64) (M : Int) (hM : M ≤ 1000000000) (hb : allB (-M) M x = true) :
    ∀ r : Nat, r ≤ 8 → Ev (fun k => impl_sums.l3 k x (fillB (sums2 x) (8 * r)) (r : Int)) (sums2 x) := by
  refine down 8 ?_ ?_
  · refine Ev.step (f := fun _ => some (sums2 x)) (fun k => ?_) (Ev.now _)
    simp only [impl_sums.l3]
    rw [if_neg (by omega), fill_end _ (sums2_len x)]
  · intro r hr h'
    refine Ev.step (fun k => ?_) (sums_l4 x hx M hM hb r hr _ h' 0 (by omega))
    simp only [impl_sums.l3]
    rw [if_pos (by omega)]; rfl
theorem fill_zero (l : List Int) : fillB l 0 = List.replicate 64 0 := by simp [fillB]
theorem sums_ev (x : List Int) (hx : x.length = 64) (M : Int) (hM : M ≤ 100000000) (hb : allB (-M) M x = true) : Ev (fun k => impl_sums.f k x) (sumsv x) := by
  unfold impl_sums.f
  have h2 := sums_l3 (halfv x) (halfv_len x) (8 * M) (by omega) (halfv_all hx hb) 0 (by omega)
  rw [Nat.mul_zero, fill_zero] at h2
  have h1 := sums_l0 x hx M (by omega) hb _ h2 0 (by omega)
  rw [Nat.mul_zero, fill_zero] at h1
  refine Ev.congr (fun k => ?_) h1
  rw [if_pos (by decide)]; rfl
theorem srow_ev (x : List Int) (hx : x.length = 64) (M : Int) (hM : M ≤ 1000000000) (hb : allB (-M) M x = true) (r v : Nat) (hr : r < 8) (hv : v < 8) : Ev (fun k => spec_l10Row.f k x (r : Int) (v : Int)) (sm (halfAt x (8 * r + v)) 8) := by
  have H : ∀ m : Nat, m ≤ 8 → Ev (fun k => spec_l10Row.l0 k x (r : Int) (v : Int) (sm (halfAt x (8 * r + v)) m) (m : Int)) (sm (halfAt x (8 * r + v)) 8) := by
    refine down 8 ?_ ?_
    · refine Ev.step (f := fun _ => some (sm (halfAt x (8 * r + v)) 8)) (fun k => ?_) (Ev.now _)
      simp only [spec_l10Row.l0]
      rw [if_neg (by omega)]
    · intro m hm h'
      have b1 := half_bound hx hb (8 * r + v) (by omega) m (by omega)
      have b2 : -M ≤ sg v m * rd x ((8 * r + m : Nat) : Int) ∧ sg v m * rd x ((8 * r + m : Nat) : Int) ≤ M := sgmul_bound _ _ (allB_at hb _ (by omega))
      have b3 : (m : Int) * M ≤ 8 * 1000000000 ∧ 0 ≤ (m : Int) * M := by
        have h0 : 0 ≤ M := by omega
        exact ⟨Int.mul_le_mul (by omega) hM h0 (by omega), Int.mul_nonneg (by omega) h0⟩
      have e : sm (halfAt x (8 * r + v)) (m + 1) = sm (halfAt x (8 * r + v)) m + sg v m * rd x ((8 * r + m : Nat) : Int) := by
        simp only [sm, halfAt]
        rw [show (8 * r + v) % 8 = v by omega, show (8 * r + v) / 8 = r by omega]
      refine Ev.step (f := fun k => (spec_SignOf.f k (v : Int) (m : Int)).bind fun t => spec_l10Row.l0 k x (r : Int) (v : Int) (wrap64 (sm (halfAt x (8 * r + v)) m + wrap64 (rd x ((8 * r + m : Nat) : Int) * t))) ((m + 1 : Nat) : Int)) (fun k => ?_) (Ev.bind (ssign_ev v m hv hm) ?_)
      · simp only [spec_l10Row.l0]
        rw [if_pos (by omega), idx8 r m hr hm, if_pos (by omega), if_pos (by omega), wrap_id (x := (m : Int) + 1) (by omega) (by omega), cast1]
      · rw [Int.mul_comm (rd x _), wrap_id (x := sg v m * _) (by omega) (by omega), wrap_id (by omega) (by omega), ← e]
        exact h'
  exact H 0 (by omega)
theorem ssums_l1 (x : List Int) (hx : x.length = 64) (M : Int) (hM : M ≤ 1000000000) (hb : allB (-M) M x = true) (r : Nat) (hr : r < 8) (R : List Int)
    (hh : Ev (fun k => spec_l10Sums.l0 k x ((halfv x).take (8 * (r + 1))) ((r + 1 : Nat) : Int)) R) :
    ∀ v : Nat, v ≤ 8 → Ev (fun k => spec_l10Sums.l1 k x ((halfv x).take (8 * r + v)) (r : Int) (v : Int)) R := by
  have hl := halfv_len x
  refine down 8 ?_ ?_
  · refine Ev.step (fun k => ?_) hh
    simp only [spec_l10Sums.l1]
    rw [if_neg (by omega), wrap_id (by omega) (by omega), cast1]; rfl
  · intro v hv h'
    have hr' := srow_ev x hx M hM hb r v hr hv
    rw [← halfv_get x (8 * r + v) (by omega)] at hr'
    refine Ev.step (f := fun k => (spec_l10Row.f k x (r : Int) (v : Int)).bind fun t => (if ((halfv x).take (8 * r + v)).length < 17592186044416 then (spec_l10Sums.l1 k x ((halfv x).take (8 * r + v) ++ [t]) (r : Int) ((v + 1 : Nat) : Int)) else (none))) (fun k => ?_) (Ev.bind hr' ?_)
    · simp only [spec_l10Sums.l1]
      rw [if_pos (by omega), wrap_id (x := (v : Int) + 1) (by omega) (by omega), cast1]
    · refine Ev.congr (fun k => ?_) h'
      rw [if_pos (by simp; omega), ← List.take_succ_eq_append_getElem (by omega)]; rfl
theorem ssums_l0 (x : List Int) (hx : x.length = 64) (M : Int) (hM : M ≤ 1000000000) (hb : allB (-M) M x = true) (R : List Int)
    (hh : Ev (fun k => spec_l10Sums.l2 k (halfv x) [] 0) R) :
    ∀ r : Nat, r ≤ 8 → Ev (fun k => spec_l10Sums.l0 k x ((halfv x).take (8 * r)) (r : Int)) R := by
  have hl := halfv_len x
  refine down 8 ?_ ?_
  · refine Ev.step (fun k => ?_) hh
    simp only [spec_l10Sums.l0]
    rw [if_neg (by omega), List.take_of_length_le (by omega)]
  · intro r hr h'
    refine Ev.step (fun k => ?_) (ssums_l1 x hx M hM hb r hr R h' 0 (by omega))
    simp only [spec_l10Sums.l0]
    rw [if_pos (by omega)]; rfl
theorem ssums_l4 (x : List Int) (hx : x.length = 64) (M : Int) (hM : M ≤ 1000000000) (hb : allB (-M) M x = true) (r v : Nat) (hr : r < 8) (hv : v < 8) (R : List Int)
    (hh : Ev (fun k => spec_l10Sums.l3 k x ((sums2 x).take (8 * r + v + 1)) (r : Int) ((v + 1 : Nat) : Int)) R) :
    ∀ m : Nat, m ≤ 8 → Ev (fun k => spec_l10Sums.l4 k x ((sums2 x).take (8 * r + v)) (r : Int) (v : Int) (sm (outAt x (8 * r + v)) m) (m : Int)) R := by
  have hl := sums2_len x
  refine down 8 ?_ ?_
  · refine Ev.step (fun k => ?_) hh
    simp only [spec_l10Sums.l4]
    rw [if_neg (by omega), if_pos (by simp; omega), ← sums2_get x (8 * r + v) (by omega), ← List.take_succ_eq_append_getElem (by omega), wrap_id (by omega) (by omega), cast1]
  · intro m hm h'
    have b1 := out_bound hx hb (8 * r + v) (by omega) m (by omega)
    have b2 : -M ≤ sg r m * rd x ((8 * m + v : Nat) : Int) ∧ sg r m * rd x ((8 * m + v : Nat) : Int) ≤ M := sgmul_bound _ _ (allB_at hb _ (by omega))
    have b3 : (m : Int) * M ≤ 8 * 1000000000 ∧ 0 ≤ (m : Int) * M := by
      have h0 : 0 ≤ M := by omega
      exact ⟨Int.mul_le_mul (by omega) hM h0 (by omega), Int.mul_nonneg (by omega) h0⟩
    have e : sm (outAt x (8 * r + v)) (m + 1) = sm (outAt x (8 * r + v)) m + sg r m * rd x ((8 * m + v : Nat) : Int) := by
      simp only [sm, outAt]
      rw [show (8 * r + v) % 8 = v by omega, show (8 * r + v) / 8 = r by omega]
    refine Ev.step (f := fun k => (spec_SignOf.f k (r : Int) (m : Int)).bind fun t => spec_l10Sums.l4 k x ((sums2 x).take (8 * r + v)) (r : Int) (v : Int) (wrap64 (sm (outAt x (8 * r + v)) m + wrap64 (t * rd x ((8 * m + v : Nat) : Int)))) ((m + 1 : Nat) : Int)) (fun k => ?_) (Ev.bind (ssign_ev r m hr hm) ?_)
    · simp only [spec_l10Sums.l4]
      rw [if_pos (by omega), idx8 m v hm hv, wrap_id (x := (m : Int) + 1) (by omega) (by omega), cast1]
      congr 1
      funext t
      rw [if_pos (by omega), if_pos (by omega)]
    · rw [wrap_id (x := sg r m * _) (by omega) (by omega), wrap_id (by omega) (by omega), ← e]
      exact h'
theorem ssums_l3 (x : List Int) (hx : x.length = 64) (M : Int) (hM : M ≤ 1000000000) (hb : allB (-M) M x = true) (r : Nat) (hr : r < 8) (R : List Int)
    (hh : Ev (fun k => spec_l10Sums.l2 k x ((sums2 x).take (8 * (r + 1))) ((r + 1 : Nat) : Int)) R) :
    ∀ v : Nat, v ≤ 8 → Ev (fun k => spec_l10Sums.l3 k x ((sums2 x).take (8 * r + v)) (r : Int) (v : Int)) R := by
  refine down 8 ?_ ?_
  · refine Ev.step (fun k => ?_) hh
    simp only [spec_l10Sums.l3]
    rw [if_neg (by omega), wrap_id (by omega) (by omega), cast1]; rfl
  · intro v hv h'
    refine Ev.step (fun k => ?_) (ssums_l4 x hx M hM hb r v hr hv R h' 0 (by omega))
    simp only [spec_l10Sums.l3]
    rw [if_pos (by omega)]; rfl
theorem ssums_l2 (x : List Int) (hx : x.length = 64) (M : Int) (hM : M ≤ 1000000000) (hb : allB (-M) M x = true) :
    ∀ r : Nat, r ≤ 8 → Ev (fun k => spec_l10Sums.l2 k x ((sums2 x).take (8 * r)) (r : Int)) (sums2 x) := by
  refine down 8 ?_ ?_
  · refine Ev.step (f := fun _ => some (sums2 x)) (fun k => ?_) (Ev.now _)
    simp only [spec_l10Sums.l2]
    rw [if_neg (by omega), List.take_of_length_le (by rw [sums2_len]; omega)]
  · intro r hr h'
    refine Ev.step (fun k => ?_) (ssums_l3 x hx M hM hb r hr _ h' 0 (by omega))
    simp only [spec_l10Sums.l2]
    rw [if_pos (by omega)]; rfl
theorem ssums_ev (x : List Int) (hx : x.length = 64) (M : Int) (hM : M ≤ 100000000) (hb : allB (-M) M x = true) : Ev (fun k => spec_l10Sums.f k x) (sumsv x) := by
  have h2 := ssums_l2 (halfv x) (halfv_len x) (8 * M) (by omega) (halfv_all hx hb) 0 (by omega)
  have h1 := ssums_l0 x hx M (by omega) hb _ h2 0 (by omega)
  exact h1

def down64 (x : Int) : Int := (x + 32) / 64
def settledL (l : List Int) : List Int := l.map down64
theorem settledL_len (l : List Int) : (settledL l).length = l.length := by simp [settledL]
theorem down_eq {x : Int} (h0 : -1000000000000 ≤ x) (h1 : x ≤ 1000000000000) :
    (if (64 : Int) = 0 then (none : Option Int) else (if (Int.tmod (wrap64 (x + 32)) 64) < 0 then (some (wrap64 ((wrap64 (Int.tdiv (wrap64 (x + 32)) 64)) - 1))) else (some (wrap64 (Int.tdiv (wrap64 (x + 32)) 64))))) = some (down64 x) := by
  rw [if_neg (by omega), wrap_id (x := x + 32) (by omega) (by omega)]
  unfold down64
  generalize hy : x + 32 = y
  have h2 : -1000000000100 ≤ y := by omega
  have h3 : y ≤ 1000000000100 := by omega
  clear hy h0 h1
  have hd : Int.tdiv y 64 * 64 + Int.tmod y 64 = y := Int.tdiv_mul_add_tmod y 64
  by_cases c : Int.tmod y 64 < 0
  · have hl : -64 < Int.tmod y 64 := by
      have := Int.lt_tmod_of_pos y (b := 64) (by omega)
      omega
    rw [if_pos c, wrap_id (x := Int.tdiv y 64) (by omega) (by omega), wrap_id (by omega) (by omega)]
    congr 1
    omega
  · have hl : Int.tmod y 64 < 64 := Int.tmod_lt_of_pos y (by omega)
    rw [if_neg c, wrap_id (x := Int.tdiv y 64) (by omega) (by omega)]
    congr 1
    omega
/-- A row that is settled up to i. -/
def setTo (l : List Int) (i : Nat) : List Int := (settledL l).take i ++ l.drop i
theorem setTo_len (l : List Int) (i : Nat) (h : i ≤ l.length) : (setTo l i).length = l.length := by
  unfold setTo
  rw [List.length_append, List.length_take, List.length_drop, settledL_len]
  omega
theorem setTo_rd (l : List Int) (i : Nat) (h : i < l.length) : rd (setTo l i) (i : Int) = l[i] := by
  unfold rd setTo
  rw [Int.toNat_natCast, List.getD_eq_getElem?_getD, List.getElem?_append_right (by rw [List.length_take, settledL_len]; omega), List.length_take, settledL_len, Nat.min_eq_left (by omega), Nat.sub_self, List.getElem?_drop, Nat.add_zero, List.getElem?_eq_getElem h]
  rfl
theorem setTo_set (l : List Int) (i : Nat) (h : i < l.length) : (setTo l i).set i (down64 l[i]) = setTo l (i + 1) := by
  have e : down64 l[i] = (settledL l)[i]'(by rw [settledL_len]; exact h) := by simp [settledL]
  rw [e]
  exact mix_set (settledL l) l i (by rw [settledL_len]; exact h) h
theorem setTo_end (l : List Int) : setTo l l.length = settledL l := by
  unfold setTo
  rw [List.drop_length, List.append_nil, List.take_of_length_le (by rw [settledL_len]; omega)]
theorem settled_ev (l : List Int) (hl : l.length ≤ 17592186043904) (hb : ∀ x ∈ l, -1000000000000 ≤ x ∧ x ≤ 1000000000000) : Ev (fun k => impl_settled.f k l) (settledL l) := by
  have H : ∀ i, i ≤ l.length → Ev (fun k => impl_settled.l0 k (setTo l i) (l.length : Int) (i : Int)) (settledL l) := by
    refine down l.length ?_ ?_
    · refine Ev.step (f := fun _ => some (settledL l)) (fun k => ?_) (Ev.now _)
      simp only [impl_settled.l0]
      rw [if_neg (by omega), setTo_end]
    · intro i hi h
      have hx := hb l[i] (List.getElem_mem _)
      refine Ev.step (fun k => ?_) h
      simp only [impl_settled.l0]
      rw [if_pos (by omega), if_pos (by omega), if_pos (by rw [setTo_len l i (by omega)]; omega), setTo_rd l i hi]
      unfold impl_floor.f
      rw [down_eq hx.1 hx.2, Option.bind_some, Int.toNat_natCast, setTo_set l i hi, wrap_id (by omega) (by omega), cast1]
  have h0 := H 0 (by omega)
  unfold impl_settled.f
  exact h0

def EiOk (x : List Int) : Prop := x.length = 64 ∧ allB (-1000) 1000 x = true
instance (x : List Int) : Decidable (EiOk x) := by unfold EiOk; infer_instance
theorem len_dece (l : List Int) (n : Nat) (m : Int) (h : m = (n : Int)) : decide ((l.length : Int) = m) = decide (l.length = n) := by rw [decide_eq_decide]; omega
theorem and_falsee {b : Bool} {p : Prop} [Decidable p] (h : ¬ (p ∧ b = true)) : (decide p && b) = false := by
  rw [Bool.eq_false_iff]; intro h'; rw [Bool.and_eq_true, decide_eq_true_eq] at h'; exact h h'
theorem eout_len (x : List Int) : (if EiOk x then sumsv x else []).length ≤ 64 := by
  by_cases c : EiOk x
  · rw [if_pos c, sumsv_len]; omega
  · rw [if_neg c]; simp

def EbOk (x : List Int) : Prop := x.length = 64 ∧ allB (-10000000) 10000000 x = true
instance (x : List Int) : Decidable (EbOk x) := by unfold EbOk; infer_instance
def ebv (x : List Int) : List Int := if EbOk x then settledL (sumsv x) else []
theorem ebv_len (x : List Int) : (ebv x).length ≤ 64 := by
  unfold ebv
  by_cases c : EbOk x
  · rw [if_pos c, settledL_len, sumsv_len]; omega
  · rw [if_neg c]; simp
theorem sumsv_small {x : List Int} (h : EbOk x) : ∀ v ∈ sumsv x, -1000000000000 ≤ v ∧ v ≤ 1000000000000 := by
  have := allB_iff.1 (sumsv_all h.1 h.2)
  intro v hv
  have h1 := this v hv
  omega
theorem eightback_ev (x : List Int) (hx : x.length ≤ 17592186043904) : Ev (fun k => impl_EightBack.f k x) (ebv x) := by
  unfold impl_EightBack.f ebv
  refine Ev.bind (areIn_ev x 64 (-10000000) 10000000 hx) ?_
  rw [len_dece x 64 64 rfl]
  by_cases c : EbOk x
  · rw [if_pos c, decide_eq_true c.1, c.2]
    simp only [Bool.and_self, if_true]
    exact Ev.bind (sums_ev x c.1 10000000 (by omega) c.2) (Ev.bind (settled_ev _ (by rw [sumsv_len]; omega) (sumsv_small c)) (Ev.now _))
  · rw [if_neg c, and_falsee c]
    simp only [Bool.false_eq_true, if_false]; exact Ev.now _
theorem seb_loop (l : List Int) (hl : l.length = 64) (hb : ∀ x ∈ l, -1000000000000 ≤ x ∧ x ≤ 1000000000000) : Ev (fun k => spec_EightBack.l0 k l 0) (settledL l) := by
  have H : ∀ i, i ≤ l.length → Ev (fun k => spec_EightBack.l0 k (setTo l i) (i : Int)) (settledL l) := by
    refine down l.length ?_ ?_
    · refine Ev.step (f := fun _ => some (settledL l)) (fun k => ?_) (Ev.now _)
      simp only [spec_EightBack.l0]
      rw [if_neg (by omega), setTo_end]
    · intro i hi h
      have hx := hb l[i] (List.getElem_mem _)
      refine Ev.step (fun k => ?_) h
      simp only [spec_EightBack.l0]
      rw [if_pos (by omega), if_pos (by omega), if_pos (by rw [setTo_len l i (by omega)]; omega), setTo_rd l i hi]
      unfold spec_l09Down.f
      rw [down_eq hx.1 hx.2, Option.bind_some, Int.toNat_natCast, setTo_set l i hi, wrap_id (by omega) (by omega), cast1]
  exact H 0 (by omega)
theorem seightback_ev (x : List Int) (hx : x.length ≤ 17592186043904) : Ev (fun k => spec_EightBack.f k x) (ebv x) := by
  unfold spec_EightBack.f ebv
  refine Ev.bind (all_ev x 64 10000000 hx (by omega) (by omega)) ?_
  rw [len_dece x 64 64 rfl]
  by_cases c : EbOk x
  · rw [if_pos c, decide_eq_true c.1, c.2]
    simp only [Bool.and_self, if_true]
    exact Ev.bind (ssums_ev x c.1 10000000 (by omega) c.2) (seb_loop _ (sumsv_len x) (sumsv_small c))
  · rw [if_neg c, and_falsee c]
    simp only [Bool.false_eq_true, if_false]; exact Ev.now _

/-- The numbers a, a + 1, .., n of them. -/
def marks : Nat → Int → List Int
  | 0, _ => []
  | n + 1, a => a :: marks n (a + 1)
theorem marks_length (n : Nat) : ∀ a, (marks n a).length = n := by
  induction n with
  | zero => intro a; rfl
  | succ n ih => intro a; simp [marks, ih]
theorem marks_get (n : Nat) : ∀ (a : Int) (i : Nat) (h : i < (marks n a).length), (marks n a)[i] = a + i := by
  induction n with
  | zero => intro a i h; simp [marks] at h
  | succ n ih =>
    intro a i h
    cases i with
    | zero => simp [marks]
    | succ i =>
      have := ih (a + 1) i (by simp [marks] at h; exact h)
      simp only [marks, List.getElem_cons_succ]
      rw [this]
      have e : ((i + 1 : Nat) : Int) = (i : Int) + 1 := rfl
      rw [e]; omega
theorem mark_ev (l : List Int) (a : Int) (hl : l.length ≤ 17592186043904) (h0 : 0 ≤ a) (h1 : a ≤ 1000000000000) : Ev (fun k => laws_markIntS.f k l a) (a + (l.length : Int), marks l.length a) := by
  have hm := marks_length l.length a
  have H : ∀ i, i ≤ l.length → Ev (fun k => laws_markIntS.l0 k ((marks l.length a).take i ++ l.drop i) (a + (i : Int)) (i : Int)) (a + (l.length : Int), marks l.length a) := by
    refine down l.length ?_ ?_
    · refine Ev.step (f := fun _ => some (a + (l.length : Int), marks l.length a)) (fun k => ?_) (Ev.now _)
      have e := mix_end (marks l.length a) l hm
      rw [hm] at e
      simp only [laws_markIntS.l0]
      rw [e, if_neg (by rw [hm]; omega)]
    · intro i hi h
      refine Ev.step (fun k => ?_) h
      have e := mix_set (marks l.length a) l i (by omega) hi
      rw [marks_get] at e
      simp only [laws_markIntS.l0]
      rw [if_pos (by rw [mix_length _ _ _ hm (by omega)]; omega), if_pos (by omega), Int.toNat_natCast, e, wrap_id (x := a + (i : Int) + 1) (by omega) (by omega), wrap_id (x := (i : Int) + 1) (by omega) (by omega), Int.add_assoc, cast1]
  have h := H 0 (by omega)
  rw [mix_zero] at h
  simpa [laws_markIntS.f] using h
theorem held_ev (n : Nat) (a : Int) (hl : n ≤ 17592186043904) (h0 : 0 ≤ a) (h1 : a ≤ 1000000000000) : Ev (fun k => laws_heldIntS.f k (marks n a) a) (a + (n : Int)) := by
  have hm := marks_length n a
  have H : ∀ i, i ≤ n → Ev (fun k => laws_heldIntS.l0 k (marks n a) (a + (i : Int)) (i : Int)) (a + (n : Int)) := by
    refine down n ?_ ?_
    · refine Ev.step (f := fun _ => some (a + (n : Int))) (fun k => ?_) (Ev.now _)
      simp only [laws_heldIntS.l0]
      rw [hm, if_neg (by omega)]
    · intro i hi h
      refine Ev.step (fun k => ?_) h
      simp only [laws_heldIntS.l0]
      rw [if_pos (by omega), if_pos (by omega), rd_nat _ i (by omega), marks_get, if_pos rfl, wrap_id (x := a + (i : Int) + 1) (by omega) (by omega), wrap_id (x := (i : Int) + 1) (by omega) (by omega), Int.add_assoc, cast1]
  have h := H 0 (by omega)
  simpa [laws_heldIntS.f] using h
theorem eqSelf_ev (a : List Int) (ha : a.length ≤ 17592186043904) : Ev (fun k => laws_eqIntS.f k a a) true := by
  have h := eqInts_ev a a ha
  rwa [decide_eq_true rfl] at h

theorem FnExactEightBack : laws_FnExactEightBack.Pure := by
  intro x _ hx _
  refine Ev.rounds ?_
  unfold laws_FnExactEightBack.f
  by_cases c : (x.length : Int) > 1048576
  · simp only [c, if_true]; exact Ev.now _
  · simp only [c, if_false]
    have hT := toInts_ev x (by omega)
    have hS := seightback_ev x (by omega)
    have hI := eightback_ev x (by omega)
    have hlen := ebv_len x
    generalize ebv x = v at hS hI hlen
    have hE := eqSelf_ev v (by omega)
    have hEx := eqSelf_ev x (by omega)
    have hMx := mark_ev x 1 (by omega) (by omega) (by omega)
    have hM := mark_ev v 1 (by omega) (by omega) (by omega)
    have hH := held_ev v.length 1 (by omega) (by omega) (by omega)
    have n1 : ¬ (1 + (x.length : Int) < 0) := by omega
    have n2 : ¬ (1 + (v.length : Int) < 0) := by omega
    repeat' (first
      | exact Ev.now _
      | (refine Ev.bind (by assumption) ?_)
      | (simp only [if_true, if_false, n1, n2, Bool.not_true, Bool.false_eq_true])
      | (refine Ev.step (fun k => by simp only [laws_FnExactEightBack.j0]; rfl) ?_))

end Go.Proofs.Ythoifppjjdmoaaa.Pure
