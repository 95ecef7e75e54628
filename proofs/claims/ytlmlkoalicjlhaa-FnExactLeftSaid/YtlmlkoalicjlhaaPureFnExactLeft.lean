/- Drawn differences come back whole from exact levels, and no more than half a step off from large ones: the law FnExactLeft answers true of every row of bytes. No condition beside the row's own. -/
import Derived.Test.YtlmlkoalicjlhaaQFnExactLeftx14
namespace Go.Proofs.Ytlmlkoalicjlhaa.Pure
open Go.RowKit Go.Proofs.Ytlmlkoalicjlhaa.QFnExactLeft Go.Proofs.YtlmlkoalicjlhaaW.PrintWords Go.Proofs.YtlmlkoalicjlhaaW.PrintLast Go.Proofs.YtlmlkoalicjlhaaW.PrintMore Go.Proofs.YtlmlkoalicjlhaaV
set_option linter.unusedVariables false
set_option linter.unusedSimpArgs false
theorem wrap_id {x : Int} (h0 : -9223372036854775808 ≤ x) (h1 : x ≤ 9223372036854775807) : wrap64 x = x := by
 unfold wrap64
 omega
theorem within_eq (a b c : Int) : impl_within.f a b c = some (decide (b ≤ a ∧ a ≤ c)) := by
 unfold impl_within.f
 by_cases h : a ≥ b
 ·rw [if_pos h]; congr 1; rw [decide_eq_decide]; omega
 ·rw [if_neg h]; congr 1; symm; rw [decide_eq_false_iff_not]; omega
theorem down {P : Nat → Prop} (n : Nat) (h0 : P n) (hs : ∀ i, i < n → P (i + 1) → P i) : ∀ i, i ≤ n → P i := by
 intro i hi
 obtain ⟨d, hd⟩ : ∃ d, d = n - i := ⟨_, rfl⟩
 induction d generalizing i with
 | zero =>
  have : i = n := by omega
  subst this; exact h0
 | succ d ih => exact hs i (by omega) (ih (i + 1) (by omega) (by omega))
theorem rd_nat (l : List Int) (i : Nat) (h : i < l.length) : rd l (i : Int) = l[i] := by
 unfold rd
 rw [List.getD_eq_getElem?_getD, Int.toNat_natCast, List.getElem?_eq_getElem h]; rfl
theorem cast1 (i : Nat) : ((i : Nat) : Int) + 1 = ((i + 1 : Nat) : Int) := rfl
theorem mix_set {α : Type} (l z : List α) (i : Nat) (hi : i < l.length) (hz : i < z.length) : (l.take i ++ z.drop i).set i l[i] = l.take (i + 1) ++ z.drop (i + 1) := by
 rw [List.set_append_right _ _ (by simp; omega)]
 rw [show i - (l.take i).length = 0 by simp; omega]
 rw [List.drop_eq_getElem_cons hz, List.set_cons_zero, List.take_succ_eq_append_getElem hi, List.append_assoc]; rfl
theorem mix_length {α : Type} (l z : List α) (i : Nat) (h : l.length = z.length) (hi : i ≤ l.length) : (l.take i ++ z.drop i).length = l.length := by
 simp; omega
theorem mix_end {α : Type} (l z : List α) (h : l.length = z.length) : l.take l.length ++ z.drop l.length = l := by
 rw [List.take_length, h, List.drop_length, List.append_nil]
theorem drop_cons {α : Type} {l : List α} {i : Nat} (h : i < l.length) : l.drop i = l[i] :: l.drop (i + 1) := List.drop_eq_getElem_cons h
/-- All numbers of a list are from lo to hi. -/
def allB (lo hi : Int) (l : List Int) : Bool := l.all fun x => decide (lo ≤ x ∧ x ≤ hi)
theorem allB_cons (lo hi x : Int) (l : List Int) : allB lo hi (x :: l) = (decide (lo ≤ x ∧ x ≤ hi) && allB lo hi l) := rfl
theorem allB_iff {lo hi : Int} {l : List Int} : allB lo hi l = true ↔ ∀ x ∈ l, lo ≤ x ∧ x ≤ hi := by
 unfold allB
 rw [List.all_eq_true]
 simp only [decide_eq_true_eq]
theorem areIn_ev (l : List Int) (n lo hi : Int) (hl : l.length ≤ 17592186043904) : Ev (fun k => impl_areIn.f k l n lo hi) (decide ((l.length : Int) = n) && allB lo hi l) := by
 have H : ∀ i, i ≤ l.length → Ev (fun k => impl_areIn.l0 k l n lo hi l (l.length : Int) (i : Int)) (decide ((l.length : Int) = n) && allB lo hi (l.drop i)) := by
  refine down l.length ?_ ?_
  ·refine Ev.step (f := fun _ => some (decide ((l.length : Int) = n))) (fun k => ?_) ?_
   ·simp only [impl_areIn.l0]
    rw [if_neg (by omega)]; congr 1
   ·rw [List.drop_length]; simp only [allB, List.all_nil, Bool.and_true]; exact Ev.now _
  ·intro i h1 h
   rw [drop_cons h1, allB_cons]
   by_cases c : lo ≤ l[i] ∧ l[i] ≤ hi
   ·rw [decide_eq_true c, Bool.true_and]
    refine Ev.step (fun k => ?_) h
    simp only [impl_areIn.l0]
    rw [if_pos (by omega), if_pos (by omega), if_pos (by omega), rd_nat l i h1, within_eq, Option.bind_some, if_pos (decide_eq_true c), wrap_id (by omega) (by omega), cast1]
   ·rw [decide_eq_false c, Bool.false_and, Bool.and_false]
    refine Ev.step (f := fun _ => some false) (fun k => ?_) (Ev.now _)
    simp only [impl_areIn.l0]
    rw [if_pos (by omega), if_pos (by omega), if_pos (by omega), rd_nat l i h1, within_eq, Option.bind_some, if_neg (by simpa using c)]
 exact H 0 (by omega)
def FoOk (x : List Int) : Prop := x.length = 16 ∧ allB (-1000) 1000 x = true
instance (x : List Int) : Decidable (FoOk x) := by unfold FoOk; infer_instance
theorem len_dec4 (l : List Int) (n : Nat) (m : Int) (h : m = (n : Int)) : decide ((l.length : Int) = m) = decide (l.length = n) := by rw [decide_eq_decide]; omega
theorem and_false4 {b : Bool} {p : Prop} [Decidable p] (h : ¬ (p ∧ b = true)) : (decide p && b) = false := by
 rw [Bool.eq_false_iff]; intro h'; rw [Bool.and_eq_true, decide_eq_true_eq] at h'; exact h h'
theorem turnedL_len (T x) : (turnedL T x).length = x.length := by simp [turnedL, colsT, rowsT, colT, rowT]
theorem four_ev (x : List Int) (hx : x.length ≤ 17592186043904) : Ev (fun k => impl_Four.f k x) (if FoOk x then turnedL t4 x else []) := by
 unfold impl_Four.f
 refine Ev.bind (areIn_ev x 16 (-1000) 1000 hx) ?_
 rw [len_dec4 x 16 16 rfl]
 by_cases c : FoOk x
 ·rw [if_pos c, decide_eq_true c.1, c.2]
  simp only [Bool.and_self, if_true]
  rw [if_pos c.1]
  exact Ev.now _
 ·rw [if_neg c, and_false4 c]
  simp only [Bool.false_eq_true, if_false]; exact Ev.now _
def ord4 : List Int := [0, 1, 4, 8, 5, 2, 3, 6, 9, 12, 13, 10, 7, 11, 14, 15]
def ord8 : List Int := [0, 1, 8, 16, 9, 2, 3, 10, 17, 24, 32, 25, 18, 11, 4, 5, 12, 19, 26, 33, 40, 48, 41, 34, 27, 20, 13, 6, 7, 14, 21, 28, 35, 42, 49, 56, 57, 50, 43, 36, 29, 22, 15, 23, 30, 37, 44, 51, 58, 59, 52, 45, 38, 31, 39, 46, 53, 60, 61, 54, 47, 55, 62, 63]
def ordOf (side : Int) : List Int := if side = 4 then ord4 else ord8
/-- A side and its number of places. -/
def SideN (side : Int) (n : Nat) : Prop := side = 4 ∧ n = 16 ∨ side = 8 ∧ n = 64
theorem ord_len {side : Int} {n : Nat} (h : SideN side n) : (ordOf side).length = n := by rcases h with ⟨rfl, rfl⟩ | ⟨rfl, rfl⟩ <;> rfl
theorem ord_in {side : Int} {n : Nat} (h : SideN side n) : ∀ x ∈ ordOf side, 0 ≤ x ∧ x < (n : Int) := by
 rcases h with ⟨rfl, rfl⟩ | ⟨rfl, rfl⟩
 ·decide +kernel
 ·decide +kernel
theorem order4 : impl_scanOrder.f 100 4 = some ord4 := by decide +kernel
theorem order8 : impl_scanOrder.f 300 8 = some ord8 := by decide +kernel
theorem order_ev {side : Int} {n : Nat} (h : SideN side n) : Ev (fun k => impl_scanOrder.f k side) (ordOf side) := by
 rcases h with ⟨rfl, rfl⟩ | ⟨rfl, rfl⟩
 ·exact Ev.of (fun k => impl_scanOrder.mono _ _) order4
 ·exact Ev.of (fun k => impl_scanOrder.mono _ _) order8
/-- A list in the order of the scan. -/
def scanv (side : Int) (l : List Int) : List Int := (ordOf side).map (rd l)
theorem scanv_len {side : Int} {n : Nat} (h : SideN side n) (l : List Int) : (scanv side l).length = n := by rw [scanv, List.length_map, ord_len h]
theorem take_snoc' (l : List Int) (i : Nat) (h : i < l.length) : l.take i ++ [l[i]] = l.take (i + 1) := (List.take_succ_eq_append_getElem h).symm
def ScOk (side : Int) (l : List Int) : Prop := (side = 4 ∧ l.length = 16) ∨ (side = 8 ∧ l.length = 64)
instance (side : Int) (l : List Int) : Decidable (ScOk side l) := by unfold ScOk; infer_instance
theorem scok_side {side : Int} {l : List Int} (h : ScOk side l) : SideN side l.length := by rcases h with ⟨rfl, e⟩ | ⟨rfl, e⟩ <;> rw [e] <;> simp [SideN]
theorem scanned_loop {side : Int} {l : List Int} (h : SideN side l.length) : ∀ i, i ≤ l.length → Ev (fun k => impl_Scanned.l0 k l ((scanv side l).take i) (ordOf side) ((ordOf side).length : Int) (i : Int)) (scanv side l, true) := by
 have hn := ord_len h
 have hs := scanv_len h l
 have hlen : l.length ≤ 64 := by rcases h with ⟨_, e⟩ | ⟨_, e⟩ <;> omega
 refine down l.length ?_ ?_
 ·refine Ev.step (f := fun _ => some (scanv side l, true)) (fun k => ?_) (Ev.now _)
  simp only [impl_Scanned.l0]
  rw [if_neg (by omega), List.take_of_length_le (by omega)]
 ·intro i hi hh
  refine Ev.step (fun k => ?_) hh
  have hb := ord_in h (ordOf side)[i] (List.getElem_mem (by omega))
  have e : (scanv side l)[i]'(by omega) = rd l ((ordOf side)[i]'(by omega)) := by simp [scanv]
  simp only [impl_Scanned.l0]
  rw [if_pos (by omega), if_pos (by omega), if_pos (by omega), rd_nat _ i (by omega), if_pos hb.1, if_pos hb.2, if_pos (by simp; omega), ← e, take_snoc', wrap_id (by omega) (by omega), cast1]
theorem scanned_ev (side : Int) (l : List Int) : Ev (fun k => impl_Scanned.f k side l) (if ScOk side l then (scanv side l, true) else ([], false)) := by
 unfold impl_Scanned.f
 simp only [Option.bind_some]
 have hbad : Ev (fun k => impl_Scanned.j0 k side l [] true) ([], false) := Ev.step (f := fun _ => some ([], false)) (fun k => by simp only [impl_Scanned.j0]; rfl) (Ev.now _)
 have hok : ScOk side l → Ev (fun k => impl_Scanned.j0 k side l [] false) (scanv side l, true) := fun h =>
  Ev.step (fun k => by simp only [impl_Scanned.j0, Bool.false_eq_true, if_false]; rfl) (Ev.bind (order_ev (scok_side h)) (by simpa using scanned_loop (scok_side h) 0 (by omega)))
 by_cases c4 : side = 4
 ·subst c4
  rw [wrap_id (x := 4 * 4) (by omega) (by omega)]
  by_cases c : l.length = 16
  ·rw [if_pos (.inl ⟨rfl, c⟩)]
   simp only [if_true, c, show (((16 : Nat) : Int) != 4 * 4) = false from by decide]
   exact hok (.inl ⟨rfl, c⟩)
  ·rw [if_neg (by rintro (⟨_, h⟩ | ⟨h, _⟩); exact c h; exact absurd h (by decide))]
   simp only [if_true, show ((l.length : Int) != 4 * 4) = true from by rw [bne_iff_ne]; omega]
   exact hbad
 ·by_cases c8 : side = 8
  ·subst c8
   simp only [if_neg c4]
   rw [wrap_id (x := 8 * 8) (by omega) (by omega)]
   by_cases c : l.length = 64
   ·rw [if_pos (.inr ⟨rfl, c⟩)]
    simp only [if_true, c, show (((64 : Nat) : Int) != 8 * 8) = false from by decide]
    exact hok (.inr ⟨rfl, c⟩)
   ·rw [if_neg (by rintro (⟨h, _⟩ | ⟨_, h⟩); exact absurd h (by decide); exact c h)]
    simp only [if_true, show ((l.length : Int) != 8 * 8) = true from by rw [bne_iff_ne]; omega]
    exact hbad
  ·rw [if_neg (by rintro (⟨h, _⟩ | ⟨h, _⟩); exact c4 h; exact c8 h)]
   simp only [if_neg c4, if_neg c8]
   exact hbad
/-- The list that comes of the order of the scan, from place i on. -/
def unsc (side : Int) (l : List Int) : Nat → Nat → List Int → List Int
 | 0, _, out => out
 | d + 1, i, out => unsc side l d (i + 1) (out.set (rd (ordOf side) (i : Int)).toNat (rd l (i : Int)))
theorem unsc_len (side : Int) (l : List Int) (d : Nat) : ∀ i out, (unsc side l d i out).length = out.length := by
 induction d with
 | zero => intro i out; rfl
 | succ d ih => intro i out; simp only [unsc]; rw [ih]; simp
def unscv (side : Int) (l : List Int) : List Int := unsc side l l.length 0 (List.replicate l.length 0)
theorem unscv_len (side : Int) (l : List Int) : (unscv side l).length = l.length := by unfold unscv; rw [unsc_len]; simp
theorem unscanned_loop {side : Int} {l : List Int} (h : SideN side l.length) : ∀ i, i ≤ l.length → ∀ out : List Int, out.length = l.length → Ev (fun k => impl_Unscanned.l0 k l out (ordOf side) ((ordOf side).length : Int) (i : Int)) (unsc side l (l.length - i) i out, true) := by
 have hn := ord_len h
 have hlen : l.length ≤ 64 := by rcases h with ⟨_, e⟩ | ⟨_, e⟩ <;> omega
 refine down l.length ?_ ?_
 ·intro out _
  rw [Nat.sub_self]
  refine Ev.step (f := fun _ => some (out, true)) (fun k => ?_) (Ev.now _)
  simp only [impl_Unscanned.l0]
  rw [if_neg (by omega)]
 ·intro i hi hh out ho
  have e1 : l.length - i = (l.length - (i + 1)) + 1 := by omega
  rw [e1]
  have hb : 0 ≤ rd (ordOf side) (i : Int) ∧ rd (ordOf side) (i : Int) < (l.length : Int) := by
   rw [rd_nat _ i (by omega)]; exact ord_in h _ (List.getElem_mem (by omega))
  refine Ev.step (fun k => ?_) (hh (out.set (rd (ordOf side) (i : Int)).toNat (rd l (i : Int))) (by simpa using ho))
  simp only [impl_Unscanned.l0]
  rw [if_pos (by omega), if_pos (by omega), if_pos (by omega), if_pos (by omega), if_pos hb.1, if_pos (by omega), wrap_id (by omega) (by omega), cast1]
theorem unscanned_ev (side : Int) (l : List Int) : Ev (fun k => impl_Unscanned.f k side l) (if ScOk side l then (unscv side l, true) else ([], false)) := by
 unfold impl_Unscanned.f
 have hbad : Ev (fun k => impl_Unscanned.j0 k side l true) ([], false) := Ev.step (f := fun _ => some ([], false)) (fun k => by simp only [impl_Unscanned.j0]; rfl) (Ev.now _)
 have hok : ScOk side l → Ev (fun k => impl_Unscanned.j0 k side l false) (unscv side l, true) := fun h => by
  have hlen : l.length ≤ 64 := by rcases h with ⟨_, e⟩ | ⟨_, e⟩ <;> omega
  refine Ev.step (fun k => by simp only [impl_Unscanned.j0, Bool.false_eq_true, if_false]; rw [if_pos (by omega), if_pos (by simp; omega), Int.toNat_natCast]) (Ev.bind (order_ev (scok_side h)) ?_)
  exact unscanned_loop (scok_side h) 0 (by omega) _ (by simp)
 by_cases c4 : side = 4
 ·subst c4
  rw [wrap_id (x := 4 * 4) (by omega) (by omega)]
  by_cases c : l.length = 16
  ·rw [if_pos (.inl ⟨rfl, c⟩)]
   simp only [if_true, c, show (((16 : Nat) : Int) != 4 * 4) = false from by decide]
   exact hok (.inl ⟨rfl, c⟩)
  ·rw [if_neg (by rintro (⟨_, h⟩ | ⟨h, _⟩); exact c h; exact absurd h (by decide))]
   simp only [if_true, show ((l.length : Int) != 4 * 4) = true from by rw [bne_iff_ne]; omega]
   exact hbad
 ·by_cases c8 : side = 8
  ·subst c8
   simp only [if_neg c4]
   rw [wrap_id (x := 8 * 8) (by omega) (by omega)]
   by_cases c : l.length = 64
   ·rw [if_pos (.inr ⟨rfl, c⟩)]
    simp only [if_true, c, show (((64 : Nat) : Int) != 8 * 8) = false from by decide]
    exact hok (.inr ⟨rfl, c⟩)
   ·rw [if_neg (by rintro (⟨h, _⟩ | ⟨_, h⟩); exact absurd h (by decide); exact c h)]
    simp only [if_true, show ((l.length : Int) != 8 * 8) = true from by rw [bne_iff_ne]; omega]
    exact hbad
  ·rw [if_neg (by rintro (⟨h, _⟩ | ⟨h, _⟩); exact c4 h; exact c8 h)]
   simp only [if_neg c4, if_neg c8]
   exact hbad
def atq (k i : Nat) : Nat := 8 * (k / 2 * 4 + i / 4) + k % 2 * 4 + i % 4
def qL (k : Nat) : List Int := (List.range 16).map fun i => (atq k i : Int)
def qv (l : List Int) (k : Nat) : List Int := (qL k).map (rd l)
theorem qL_len (k : Nat) : (qL k).length = 16 := by simp [qL]
theorem qv_len (l : List Int) (k : Nat) : (qv l k).length = 16 := by simp [qv, qL]
theorem atq_lt (k i : Nat) (hk : k < 4) (hi : i < 16) : atq k i < 64 := by unfold atq; omega
theorem qL_rd (k i : Nat) (hi : i < 16) : rd (qL k) (i : Int) = (atq k i : Int) := by
 rw [rd_nat _ i (by rw [qL_len]; exact hi)]; simp [qL]
theorem qv_get (l : List Int) (k i : Nat) (hi : i < 16) : rd l (atq k i : Int) = (qv l k)[i]'(by rw [qv_len]; exact hi) := by simp [qv, qL]
theorem mix_rd (m l : List Int) (i : Nat) (hi : i < l.length) (h : m.length = l.length) : rd (m.take i ++ l.drop i) (i : Int) = l[i] := by
 unfold rd
 rw [Int.toNat_natCast, List.getD_eq_getElem?_getD, List.getElem?_append_right (by rw [List.length_take]; omega), List.length_take, Nat.min_eq_left (by omega), Nat.sub_self, List.getElem?_drop, Nat.add_zero, List.getElem?_eq_getElem hi]
 rfl
theorem quarter_fin : ∀ k : Fin 4, impl_quarter.f 60 (k.val : Int) = some (qL k.val) := by decide +kernel
theorem quarter_ev (k : Nat) (hk : k < 4) : Ev (fun n => impl_quarter.f n (k : Int)) (qL k) := Ev.of (fun n => impl_quarter.mono _ _) (quarter_fin ⟨k, hk⟩)
def condB (q : Int) (l e : Bool) : Bool := decide (0 ≤ q ∧ q ≤ 40) && !(l && e)
theorem cond_val (a : Bool) (q : Int) (l e : Bool) : impl_CondOk.f a q l e = some (condB q l e) := by
 unfold impl_CondOk.f condB
 rw [within_eq, Option.bind_some]
 by_cases c : 0 ≤ q ∧ q ≤ 40
 ·simp only [c, and_self, decide_true, if_true, Bool.true_and]
  cases l <;> cases e <;> rfl
 ·simp only [c, decide_false, Bool.false_eq_true, if_false, Bool.false_and]
def sg (u k : Nat) : Int := if (u % 2 * (k % 2) + u / 2 % 2 * (k / 2 % 2) + u / 4 % 2 * (k / 4 % 2)) % 2 = 0 then 1 else -1
theorem sg_one (u k : Nat) : sg u k = 1 ∨ sg u k = -1 := by unfold sg; split <;> simp
/-- The sum of f 0 .. f (n - 1). -/
def sm (f : Nat → Int) : Nat → Int
 | 0 => 0
 | n + 1 => sm f n + f n
theorem sm_bound (f : Nat → Int) (B : Int) (n : Nat) (h : ∀ k, k < n → -B ≤ f k ∧ f k ≤ B) : -((n : Int) * B) ≤ sm f n ∧ sm f n ≤ (n : Int) * B := by
 induction n with
 | zero => simp [sm]
 | succ n ih =>
  have h1 := ih (fun k hk => h k (by omega))
  have h2 := h n (by omega)
  have e : ((n + 1 : Nat) : Int) * B = (n : Int) * B + B := by rw [show ((n + 1 : Nat) : Int) = (n : Int) + 1 from rfl, Int.add_mul, Int.one_mul]
  simp only [sm]; rw [e]; omega
theorem sgmul_bound {B x : Int} (u k : Nat) (h : -B ≤ x ∧ x ≤ B) : -B ≤ sg u k * x ∧ sg u k * x ≤ B := by
 rcases sg_one u k with e | e <;> rw [e] <;> omega
def halfAt (x : List Int) (i : Nat) (k : Nat) : Int := sg (i % 8) k * rd x ((8 * (i / 8) + k : Nat) : Int)
def halfv (x : List Int) : List Int := (List.range 64).map fun i => sm (halfAt x i) 8
def outAt (h : List Int) (i : Nat) (j : Nat) : Int := sg (i / 8) j * rd h ((8 * j + i % 8 : Nat) : Int)
def sums2 (h : List Int) : List Int := (List.range 64).map fun i => sm (outAt h i) 8
def sumsv (x : List Int) : List Int := sums2 (halfv x)
theorem halfv_len (x : List Int) : (halfv x).length = 64 := by simp [halfv]
theorem sums2_len (x : List Int) : (sums2 x).length = 64 := by simp [sums2]
theorem sumsv_len (x : List Int) : (sumsv x).length = 64 := sums2_len _
theorem halfv_get (x : List Int) (i : Nat) (h : i < (halfv x).length) : (halfv x)[i] = sm (halfAt x i) 8 := by simp [halfv]
theorem sums2_get (x : List Int) (i : Nat) (h : i < (sums2 x).length) : (sums2 x)[i] = sm (outAt x i) 8 := by simp [sums2]
theorem allB_at {lo hi : Int} {l : List Int} (h : allB lo hi l = true) (i : Nat) (hi' : i < l.length) : lo ≤ rd l (i : Int) ∧ rd l (i : Int) ≤ hi := by
 rw [rd_nat l i hi']; exact allB_iff.1 h _ (List.getElem_mem _)
theorem half_bound {x : List Int} {M : Int} (hx : x.length = 64) (h : allB (-M) M x = true) (i : Nat) (hi : i < 64) (n : Nat) (hn : n ≤ 8) : -((n : Int) * M) ≤ sm (halfAt x i) n ∧ sm (halfAt x i) n ≤ (n : Int) * M :=
 sm_bound _ M n fun k hk => sgmul_bound _ _ (allB_at h _ (by omega))
theorem halfv_all {x : List Int} {M : Int} (hx : x.length = 64) (h : allB (-M) M x = true) : allB (-(8 * M)) (8 * M) (halfv x) = true := by
 rw [allB_iff]
 intro v hv
 obtain ⟨i, hi, rfl⟩ := List.mem_iff_getElem.1 hv
 rw [halfv_get]
 have := half_bound hx h i (by rw [halfv_len] at hi; exact hi) 8 (by omega)
 omega
theorem out_bound {x : List Int} {M : Int} (hx : x.length = 64) (h : allB (-M) M x = true) (i : Nat) (hi : i < 64) (n : Nat) (hn : n ≤ 8) : -((n : Int) * M) ≤ sm (outAt x i) n ∧ sm (outAt x i) n ≤ (n : Int) * M :=
 sm_bound _ M n fun k hk => sgmul_bound _ _ (allB_at h _ (by omega))
theorem sums2_all {x : List Int} {M : Int} (hx : x.length = 64) (h : allB (-M) M x = true) : allB (-(8 * M)) (8 * M) (sums2 x) = true := by
 rw [allB_iff]
 intro v hv
 obtain ⟨i, hi, rfl⟩ := List.mem_iff_getElem.1 hv
 rw [sums2_get]
 have := out_bound hx h i (by rw [sums2_len] at hi; exact hi) 8 (by omega)
 omega
theorem sumsv_all {x : List Int} {M : Int} (hx : x.length = 64) (h : allB (-M) M x = true) : allB (-(64 * M)) (64 * M) (sumsv x) = true := by
 have h2 := sums2_all (halfv_len x) (halfv_all hx h)
 rw [show 8 * (8 * M) = 64 * M by omega] at h2
 exact h2
/-- The first p of l, then noughts, 64 in all. -/
def fillB (l : List Int) (p : Nat) : List Int := l.take p ++ (List.replicate 64 (0 : Int)).drop p
theorem fill_len (l : List Int) (hl : l.length = 64) (p : Nat) (hp : p ≤ 64) : (fillB l p).length = 64 := by
 unfold fillB; rw [mix_length _ _ _ (by simp [hl]) (by omega)]; exact hl
theorem fill_set0 (l : List Int) (hl : l.length = 64) (p : Nat) (hp : p < 64) : (fillB l p).set p 0 = fillB l p := by
 have e : fillB l p = l.take p ++ (0 :: (List.replicate 64 (0 : Int)).drop (p + 1)) := by
  unfold fillB
  rw [List.drop_eq_getElem_cons (by simp; omega), List.getElem_replicate]
 rw [e, List.set_append_right _ _ (by simp; omega), show p - (l.take p).length = 0 by simp; omega, List.set_cons_zero]
theorem fill_set1 (l : List Int) (hl : l.length = 64) (p : Nat) (hp : p < 64) : (fillB l p).set p (l[p]'(by omega)) = fillB l (p + 1) := mix_set l _ p (by omega) (by simp; omega)
theorem fill_rd (l : List Int) (hl : l.length = 64) (p : Nat) (hp : p < 64) (y : Int) : rd ((fillB l p).set p y) (p : Int) = y := by
 rw [rd_nat _ p (by rw [List.length_set, fill_len l hl p (by omega)]; exact hp), List.getElem_set_self]
theorem fill_end (l : List Int) (hl : l.length = 64) : fillB l 64 = l := by
 have := mix_end l (List.replicate 64 (0 : Int)) (by simp [hl])
 rw [hl] at this; exact this
theorem idx8 (r v : Nat) (hr : r < 8) (hv : v < 8) : wrap64 (wrap64 (8 * (r : Int)) + (v : Int)) = ((8 * r + v : Nat) : Int) := by
 rw [wrap_id (x := 8 * (r : Int)) (by omega) (by omega), wrap_id (by omega) (by omega)]; omega
theorem sign_fin : ∀ i j : Fin 8, impl_SignOf.f 3 (i.val : Int) (j.val : Int) = some (sg i.val j.val) := by decide +kernel
theorem sign_ev (u k : Nat) (hu : u < 8) (hk : k < 8) : Ev (fun n => impl_SignOf.f n (u : Int) (k : Int)) (sg u k) := Ev.of (fun n => impl_SignOf.mono _ _ _) (sign_fin ⟨u, hu⟩ ⟨k, hk⟩)
theorem sums_l2 (x : List Int) (hx : x.length = 64) (M : Int) (hM : M ≤ 1000000000) (hb : allB (-M) M x = true) (r v : Nat) (hr : r < 8) (hv : v < 8) (R : List Int)
  (hh : Ev (fun k => impl_sums.l1 k x (fillB (halfv x) (8 * r + v + 1)) (r : Int) (r : Int) ((v + 1 : Nat) : Int)) R) :
  ∀ m : Nat, m ≤ 8 → Ev (fun k => impl_sums.l2 k x ((fillB (halfv x) (8 * r + v)).set (8 * r + v) (sm (halfAt x (8 * r + v)) m)) (r : Int) (v : Int) (r : Int) (v : Int) (m : Int)) R := by
 have hl := halfv_len x
 refine down 8 ?_ ?_
 ·refine Ev.step (fun k => ?_) hh
  simp only [impl_sums.l2]
  rw [if_neg (by omega), ← halfv_get x (8 * r + v) (by omega), fill_set1 _ hl _ (by omega), wrap_id (by omega) (by omega), cast1]
 ·intro m hm h'
  have b1 := half_bound hx hb (8 * r + v) (by omega) m (by omega)
  have b2 : -M ≤ sg v m * rd x ((8 * r + m : Nat) : Int) ∧ sg v m * rd x ((8 * r + m : Nat) : Int) ≤ M := sgmul_bound _ _ (allB_at hb _ (by omega))
  have b3 : (m : Int) * M ≤ 8 * 1000000000 ∧ 0 ≤ (m : Int) * M := by
   have h0 : 0 ≤ M := by omega
   exact ⟨Int.mul_le_mul (by omega) hM h0 (by omega), Int.mul_nonneg (by omega) h0⟩
  have e : sm (halfAt x (8 * r + v)) (m + 1) = sm (halfAt x (8 * r + v)) m + sg v m * rd x ((8 * r + m : Nat) : Int) := by
   simp only [sm, halfAt]
   rw [show (8 * r + v) % 8 = v by omega, show (8 * r + v) / 8 = r by omega]
  refine Ev.step (f := fun k => (impl_SignOf.f k (v : Int) (m : Int)).bind fun t => impl_sums.l2 k x (((fillB (halfv x) (8 * r + v)).set (8 * r + v) (sm (halfAt x (8 * r + v)) m)).set (8 * r + v) (wrap64 (sm (halfAt x (8 * r + v)) m + wrap64 (t * rd x ((8 * r + m : Nat) : Int))))) (r : Int) (v : Int) (r : Int) (v : Int) ((m + 1 : Nat) : Int)) (fun k => ?_) (Ev.bind (sign_ev v m hv hm) ?_)
  ·simp only [impl_sums.l2]
   rw [if_pos (by omega), idx8 r v hr hv, idx8 r m hr hm, if_pos (by omega), if_pos (by rw [List.length_set, fill_len _ hl _ (by omega)]; omega), fill_rd _ hl _ (by omega), wrap_id (x := (m : Int) + 1) (by omega) (by omega), cast1]
   congr 1
   funext t
   rw [if_pos (by omega), if_pos (by omega), Int.toNat_natCast]
  ·rw [List.set_set, wrap_id (x := sg v m * _) (by omega) (by omega), wrap_id (by omega) (by omega), ← e]
   exact h'
theorem sums_l1 (x : List Int) (hx : x.length = 64) (M : Int) (hM : M ≤ 1000000000) (hb : allB (-M) M x = true) (r : Nat) (hr : r < 8) (R : List Int)
  (hh : Ev (fun k => impl_sums.l0 k x (fillB (halfv x) (8 * (r + 1))) ((r + 1 : Nat) : Int)) R) :
  ∀ v : Nat, v ≤ 8 → Ev (fun k => impl_sums.l1 k x (fillB (halfv x) (8 * r + v)) (r : Int) (r : Int) (v : Int)) R := by
 refine down 8 ?_ ?_
 ·refine Ev.step (fun k => ?_) hh
  simp only [impl_sums.l1]
  rw [if_neg (by omega), wrap_id (by omega) (by omega), cast1]; rfl
 ·intro v hv h'
  refine Ev.step (fun k => ?_) (sums_l2 x hx M hM hb r v hr hv R h' 0 (by omega))
  simp only [impl_sums.l1]
  rw [if_pos (by omega), sm, fill_set0 _ (halfv_len x) _ (by omega)]; rfl
theorem sums_l0 (x : List Int) (hx : x.length = 64) (M : Int) (hM : M ≤ 1000000000) (hb : allB (-M) M x = true) (R : List Int)
  (hh : Ev (fun k => impl_sums.l3 k (halfv x) (List.replicate 64 0) 0) R) :
  ∀ r : Nat, r ≤ 8 → Ev (fun k => impl_sums.l0 k x (fillB (halfv x) (8 * r)) (r : Int)) R := by
 refine down 8 ?_ ?_
 ·refine Ev.step (fun k => ?_) hh
  simp only [impl_sums.l0]
  rw [if_neg (by omega), if_pos (by decide), fill_end _ (halfv_len x)]
 ·intro r hr h'
  refine Ev.step (fun k => ?_) (sums_l1 x hx M hM hb r hr R h' 0 (by omega))
  simp only [impl_sums.l0]
  rw [if_pos (by omega)]; rfl
theorem sums_l5 (x : List Int) (hx : x.length = 64) (M : Int) (hM : M ≤ 1000000000) (hb : allB (-M) M x = true) (r v : Nat) (hr : r < 8) (hv : v < 8) (R : List Int)
  (hh : Ev (fun k => impl_sums.l4 k x (fillB (sums2 x) (8 * r + v + 1)) (r : Int) (r : Int) ((v + 1 : Nat) : Int)) R) :
  ∀ m : Nat, m ≤ 8 → Ev (fun k => impl_sums.l5 k x ((fillB (sums2 x) (8 * r + v)).set (8 * r + v) (sm (outAt x (8 * r + v)) m)) (r : Int) (v : Int) (r : Int) (v : Int) (m : Int)) R := by
 have hl := sums2_len x
 refine down 8 ?_ ?_
 ·refine Ev.step (fun k => ?_) hh
  simp only [impl_sums.l5]
  rw [if_neg (by omega), ← sums2_get x (8 * r + v) (by omega), fill_set1 _ hl _ (by omega), wrap_id (by omega) (by omega), cast1]
 ·intro m hm h'
  have b1 := out_bound hx hb (8 * r + v) (by omega) m (by omega)
  have b2 : -M ≤ sg r m * rd x ((8 * m + v : Nat) : Int) ∧ sg r m * rd x ((8 * m + v : Nat) : Int) ≤ M := sgmul_bound _ _ (allB_at hb _ (by omega))
  have b3 : (m : Int) * M ≤ 8 * 1000000000 ∧ 0 ≤ (m : Int) * M := by
   have h0 : 0 ≤ M := by omega
   exact ⟨Int.mul_le_mul (by omega) hM h0 (by omega), Int.mul_nonneg (by omega) h0⟩
  have e : sm (outAt x (8 * r + v)) (m + 1) = sm (outAt x (8 * r + v)) m + sg r m * rd x ((8 * m + v : Nat) : Int) := by
   simp only [sm, outAt]
   rw [show (8 * r + v) % 8 = v by omega, show (8 * r + v) / 8 = r by omega]
  refine Ev.step (f := fun k => (impl_SignOf.f k (r : Int) (m : Int)).bind fun t => impl_sums.l5 k x (((fillB (sums2 x) (8 * r + v)).set (8 * r + v) (sm (outAt x (8 * r + v)) m)).set (8 * r + v) (wrap64 (sm (outAt x (8 * r + v)) m + wrap64 (t * rd x ((8 * m + v : Nat) : Int))))) (r : Int) (v : Int) (r : Int) (v : Int) ((m + 1 : Nat) : Int)) (fun k => ?_) (Ev.bind (sign_ev r m hr hm) ?_)
  ·simp only [impl_sums.l5]
   rw [if_pos (by omega), idx8 r v hr hv, idx8 m v hm hv, if_pos (by omega), if_pos (by rw [List.length_set, fill_len _ hl _ (by omega)]; omega), fill_rd _ hl _ (by omega), wrap_id (x := (m : Int) + 1) (by omega) (by omega), cast1]
   congr 1
   funext t
   rw [if_pos (by omega), if_pos (by omega), Int.toNat_natCast]
  ·rw [List.set_set, wrap_id (x := sg r m * _) (by omega) (by omega), wrap_id (by omega) (by omega), ← e]
   exact h'
theorem sums_l4 (x : List Int) (hx : x.length = 64) (M : Int) (hM : M ≤ 1000000000) (hb : allB (-M) M x = true) (r : Nat) (hr : r < 8) (R : List Int)
  (hh : Ev (fun k => impl_sums.l3 k x (fillB (sums2 x) (8 * (r + 1))) ((r + 1 : Nat) : Int)) R) :
  ∀ v : Nat, v ≤ 8 → Ev (fun k => impl_sums.l4 k x (fillB (sums2 x) (8 * r + v)) (r : Int) (r : Int) (v : Int)) R := by
 refine down 8 ?_ ?_
 ·refine Ev.step (fun k => ?_) hh
  simp only [impl_sums.l4]
  rw [if_neg (by omega), wrap_id (by omega) (by omega), cast1]; rfl
 ·intro v hv h'
  refine Ev.step (fun k => ?_) (sums_l5 x hx M hM hb r v hr hv R h' 0 (by omega))
  simp only [impl_sums.l4]
  rw [if_pos (by omega), sm, fill_set0 _ (sums2_len x) _ (by omega)]; rfl
theorem sums_l3 (x : List Int) (hx : x.length = 64) (M : Int) (hM : M ≤ 1000000000) (hb : allB (-M) M x = true) :
  ∀ r : Nat, r ≤ 8 → Ev (fun k => impl_sums.l3 k x (fillB (sums2 x) (8 * r)) (r : Int)) (sums2 x) := by
 refine down 8 ?_ ?_
 ·refine Ev.step (f := fun _ => some (sums2 x)) (fun k => ?_) (Ev.now _)
  simp only [impl_sums.l3]
  rw [if_neg (by omega), fill_end _ (sums2_len x)]
 ·intro r hr h'
  refine Ev.step (fun k => ?_) (sums_l4 x hx M hM hb r hr _ h' 0 (by omega))
  simp only [impl_sums.l3]
  rw [if_pos (by omega)]; rfl
theorem fill_zero (l : List Int) : fillB l 0 = List.replicate 64 0 := by simp [fillB]
theorem sums_ev (x : List Int) (hx : x.length = 64) (M : Int) (hM : M ≤ 100000000) (hb : allB (-M) M x = true) : Ev (fun k => impl_sums.f k x) (sumsv x) := by
 unfold impl_sums.f
 have h2 := sums_l3 (halfv x) (halfv_len x) (8 * M) (by omega) (halfv_all hx hb) 0 (by omega)
 rw [Nat.mul_zero, fill_zero] at h2
 have h1 := sums_l0 x hx M (by omega) hb _ h2 0 (by omega)
 rw [Nat.mul_zero, fill_zero] at h1
 refine Ev.congr (fun k => ?_) h1
 rw [if_pos (by decide)]; rfl
def EiOk (x : List Int) : Prop := x.length = 64 ∧ allB (-1000) 1000 x = true
instance (x : List Int) : Decidable (EiOk x) := by unfold EiOk; infer_instance
theorem len_dece (l : List Int) (n : Nat) (m : Int) (h : m = (n : Int)) : decide ((l.length : Int) = m) = decide (l.length = n) := by rw [decide_eq_decide]; omega
theorem and_falsee {b : Bool} {p : Prop} [Decidable p] (h : ¬ (p ∧ b = true)) : (decide p && b) = false := by
 rw [Bool.eq_false_iff]; intro h'; rw [Bool.and_eq_true, decide_eq_true_eq] at h'; exact h h'
theorem eight_ev (x : List Int) (hx : x.length ≤ 17592186043904) : Ev (fun k => impl_Eight.f k x) (if EiOk x then sumsv x else []) := by
 unfold impl_Eight.f
 refine Ev.bind (areIn_ev x 64 (-1000) 1000 hx) ?_
 rw [len_dece x 64 64 rfl]
 by_cases c : EiOk x
 ·rw [if_pos c, decide_eq_true c.1, c.2]
  simp only [Bool.and_self, if_true]
  exact Ev.bind (sums_ev x c.1 1000 (by omega) c.2) (Ev.now _)
 ·rw [if_neg c, and_falsee c]
  simp only [Bool.false_eq_true, if_false]; exact Ev.now _
/-- The kind of a place of sixteen. -/
def kindN (a : Int) : Int := if 0 ≤ a ∧ a ≤ 15 then (if a / 4 % 2 = 0 ∧ a % 4 % 2 = 0 then 0 else if a / 4 % 2 = 1 ∧ a % 4 % 2 = 1 then 1 else 2) else -1
theorem kindN_in {a : Int} (h : 0 ≤ a ∧ a ≤ 15) : 0 ≤ kindN a ∧ kindN a < 3 := by
 unfold kindN
 rw [if_pos h]
 by_cases c1 : a / 4 % 2 = 0 ∧ a % 4 % 2 = 0
 ·rw [if_pos c1]; omega
 ·rw [if_neg c1]
  by_cases c2 : a / 4 % 2 = 1 ∧ a % 4 % 2 = 1
  ·rw [if_pos c2]; omega
  ·rw [if_neg c2]; omega
theorem kind_parts {a : Int} (h : 0 ≤ a ∧ a ≤ 15) : Int.tmod (wrap64 (Int.tdiv a 4)) 2 = a / 4 % 2 ∧ Int.tmod (Int.tmod a 4) 2 = a % 4 % 2 := by
 rw [Int.tdiv_eq_ediv_of_nonneg h.1, wrap_id (by omega) (by omega), Int.tmod_eq_emod_of_nonneg (a := a / 4) (by omega), Int.tmod_eq_emod_of_nonneg (a := a) h.1, Int.tmod_eq_emod_of_nonneg (a := a % 4) (by omega)]
 exact ⟨rfl, rfl⟩
theorem kind_ev (a : Int) : Ev (fun k => impl_KindOf.f k a) (kindN a) := by
 unfold impl_KindOf.f kindN
 simp only [within_eq, Option.bind_some]
 by_cases h : 0 ≤ a ∧ a ≤ 15
 ·obtain ⟨e1, e2⟩ := kind_parts h
  simp only [decide_eq_true h, if_true, h, and_self, e1, e2]
  have hr : a / 4 % 2 = 0 ∨ a / 4 % 2 = 1 := by omega
  have hc : a % 4 % 2 = 0 ∨ a % 4 % 2 = 1 := by omega
  generalize a / 4 % 2 = x at hr
  generalize a % 4 % 2 = y at hc
  rcases hr with rfl | rfl <;> rcases hc with rfl | rfl <;> exact Ev.step (fun k => by simp only [impl_KindOf.j0]; rfl) (Ev.now _)
 ·simp only [decide_eq_false h, h, if_false, Bool.false_eq_true]
  exact Ev.now _
def shareN (q p : Int) : Int := if (0 ≤ q ∧ q ≤ 40) ∧ 0 ≤ p ∧ p ≤ 15 then shareT (q % 6) (kindN p) else 0
theorem share_ev (q p : Int) : Ev (fun k => impl_ShareOf.f k q p) (shareN q p) := by
 unfold impl_ShareOf.f shareN
 simp only [within_eq, Option.bind_some]
 by_cases h1 : 0 ≤ q ∧ q ≤ 40
 ·by_cases h2 : 0 ≤ p ∧ p ≤ 15
  ·simp only [decide_eq_true h1, decide_eq_true h2, if_true, h1, h2, and_self]
   refine Ev.bind (kind_ev p) ?_
   rw [if_pos (kindN_in h2), Int.tmod_eq_emod_of_nonneg h1.1]
   exact Ev.now _
  ·simp only [decide_eq_true h1, decide_eq_false h2, if_true, h2, and_false, if_false, Bool.false_eq_true]
   exact Ev.now _
 ·simp only [decide_eq_false h1, if_false, h1, false_and, Bool.false_eq_true]
  exact Ev.now _
theorem pow_le_nat {a b : Nat} (h : a ≤ b) : (2 : Int) ^ a ≤ 2 ^ b := by
 have := Nat.pow_le_pow_right (show 0 < 2 by omega) h
 exact_mod_cast this
theorem pow_ge1 (a : Nat) : (1 : Int) ≤ 2 ^ a := Int.pow_pos (by omega)
theorem shl_val {x e : Int} (hx : 0 ≤ x ∧ x ≤ 30000) (he : 0 ≤ e ∧ e ≤ 25) : shl .i64 x e = x * 2 ^ e.toNat := by
 unfold shl
 have hm : min e.toNat IntKind.i64.bits = e.toNat := Nat.min_eq_left (by show e.toNat ≤ 64; omega)
 rw [hm, i64_w]
 have hp := pow_le_nat (a := e.toNat) (b := 25) (by omega)
 have h1 := pow_ge1 e.toNat
 have hb : x * 2 ^ e.toNat ≤ 30000 * 2 ^ 25 := Int.mul_le_mul hx.2 hp (by omega) (by omega)
 have h0 : 0 ≤ x * 2 ^ e.toNat := Int.mul_nonneg hx.1 (by omega)
 rw [wrap_id (by omega) (by omega)]
def absN (w : Int) : Int := if w < 0 then -w else w
def sgnN (w n : Int) : Int := if w < 0 then -n else n
def smallP (q : Int) : Int := 2 ^ (15 + q / 6).toNat
def smallQ (a q p : Int) : Int := (a * shareN q p + smallP q / 3) / smallP q
def smallN (w q p : Int) : Int := if (-20000 ≤ w ∧ w ≤ 20000) ∧ (0 ≤ q ∧ q ≤ 40) ∧ 0 ≤ p ∧ p ≤ 15 then sgnN w (smallQ (absN w) q p) else 0
theorem shareT_in (q k : Int) : 2893 ≤ shareT q k ∧ shareT q k ≤ 13107 := by
 unfold shareT
 repeat' split
 all_goals omega
theorem shareN_in {q p : Int} (h1 : 0 ≤ q ∧ q ≤ 40) (h2 : 0 ≤ p ∧ p ≤ 15) : 2893 ≤ shareN q p ∧ shareN q p ≤ 13107 := by
 unfold shareN
 rw [if_pos ⟨h1, h2⟩]
 exact shareT_in _ _
theorem absN_in {w : Int} (h : -20000 ≤ w ∧ w ≤ 20000) : 0 ≤ absN w ∧ absN w ≤ 20000 := by
 unfold absN
 split <;> omega
theorem smallP_in {q : Int} (h : 0 ≤ q ∧ q ≤ 40) : 32768 ≤ smallP q ∧ smallP q ≤ 2097152 := by
 unfold smallP
 have h1 := pow_le_nat (a := 15) (b := (15 + q / 6).toNat) (by omega)
 have h2 := pow_le_nat (a := (15 + q / 6).toNat) (b := 21) (by omega)
 exact ⟨by omega, by omega⟩
theorem smallmul_in {a t : Int} (ha : 0 ≤ a ∧ a ≤ 20000) (ht : 0 ≤ t ∧ t ≤ 13107) : 0 ≤ a * t ∧ a * t ≤ 262140000 := by
 have h := Int.mul_le_mul ha.2 ht.2 ht.1 (by omega : (0 : Int) ≤ 20000)
 exact ⟨Int.mul_nonneg ha.1 ht.1, by omega⟩
theorem quot_in {x n : Int} (h0 : 0 ≤ x) (h1 : 1 ≤ n) : 0 ≤ x / n ∧ x / n ≤ x := ⟨Int.ediv_nonneg h0 (by omega), Int.ediv_le_self n h0⟩
/-- The quotient as both sides reckon it. -/
theorem small_steps {a q p : Int} (ha : 0 ≤ a ∧ a ≤ 20000) (h1 : 0 ≤ q ∧ q ≤ 40) (h2 : 0 ≤ p ∧ p ≤ 15) :
  wrap64 (Int.tdiv (wrap64 ((wrap64 (a * shareN q p)) + (wrap64 (Int.tdiv (smallP q) 3)))) (smallP q)) = smallQ a q p ∧ 0 ≤ smallQ a q p ∧ smallQ a q p ≤ 300000000 := by
 have hn := smallP_in h1
 have ht := shareN_in h1 h2
 have hm := smallmul_in ha (t := shareN q p) (by omega)
 unfold smallQ
 generalize smallP q = n at hn ⊢
 generalize a * shareN q p = m at hm ⊢
 have hq := quot_in (x := m + n / 3) (n := n) (by omega) (by omega)
 rw [Int.tdiv_eq_ediv_of_nonneg (a := n) (by omega), wrap_id (x := m) (by omega) (by omega), wrap_id (x := n / 3) (by omega) (by omega), wrap_id (x := m + n / 3) (by omega) (by omega), Int.tdiv_eq_ediv_of_nonneg (a := m + n / 3) (by omega)]
 have hb : m + n / 3 ≤ 300000000 := by omega
 generalize (m + n / 3) / n = z at hq ⊢
 exact ⟨wrap_id (by omega) (by omega), hq.1, by omega⟩
theorem exp15 {q : Int} (h : 0 ≤ q ∧ q ≤ 40) : wrap64 (15 + wrap64 (Int.tdiv q 6)) = 15 + q / 6 := by
 rw [Int.tdiv_eq_ediv_of_nonneg h.1, wrap_id (x := q / 6) (by omega) (by omega), wrap_id (by omega) (by omega)]
theorem shl15 {q : Int} (h : 0 ≤ q ∧ q ≤ 40) : shl .i64 1 (15 + q / 6) = smallP q := by
 rw [shl_val (by omega) (by omega), Int.one_mul]
 rfl
theorem size_val {w : Int} (h : -20000 ≤ w ∧ w ≤ 20000) : mx w (wrap64 (-w)) = absN w := by
 rw [wrap_id (by omega) (by omega)]
 unfold mx absN
 by_cases c : w < 0
 ·rw [if_pos c, if_pos (by omega)]
 ·rw [if_neg c, if_neg (by omega)]
theorem small_ev (w q p : Int) : Ev (fun k => impl_SmallLevel.f k w q p) (smallN w q p) := by
 have hbad : ∀ x y z : Int, Ev (fun k => impl_SmallLevel.j0 k x y z true) 0 := fun x y z => Ev.step (f := fun _ => some 0) (fun k => by simp only [impl_SmallLevel.j0]; rfl) (Ev.now _)
 unfold impl_SmallLevel.f smallN
 simp only [within_eq, Option.bind_some]
 by_cases h0 : -20000 ≤ w ∧ w ≤ 20000
 ·by_cases h1 : 0 ≤ q ∧ q ≤ 40
  ·by_cases h2 : 0 ≤ p ∧ p ≤ 15
   ·simp only [h0, h1, h2, and_self, decide_true, if_true, Bool.not_true]
    have hs := share_ev q p
    obtain ⟨e1, e2, e3⟩ := small_steps (absN_in h0) h1 h2
    have hn := smallP_in h1
    have g : (0 : Int) ≤ 15 + q / 6 := by omega
    have n0 : ¬ smallP q = 0 := by omega
    refine Ev.step (fun k => by simp only [impl_SmallLevel.j0, Bool.false_eq_true, if_false, exp15 h1, g, if_true, impl_size.f, Option.bind_some, size_val h0, shl15 h1, n0]; rfl) (Ev.bind hs ?_)
    simp only [e1, impl_signed.f]
    unfold sgnN
    by_cases c : w < 0
    ·simp only [c, if_true, Option.bind_some]
     rw [wrap_id (by omega) (by omega)]
     exact Ev.now _
    ·simp only [c, if_false, Option.bind_some]
     exact Ev.now _
   ·simp only [h0, h1, h2, and_self, and_false, decide_true, decide_false, if_true, if_false, Bool.not_false]
    exact hbad _ _ _
  ·simp only [h0, h1, and_self, false_and, and_false, decide_true, decide_false, if_true, if_false, Bool.false_eq_true]
   exact hbad _ _ _
 ·simp only [h0, false_and, decide_false, if_false, Bool.false_eq_true]
  exact hbad _ _ _
def stepT (m : Int) : Int := if m = 0 then 10 else if m = 1 then 11 else if m = 2 then 13 else if m = 3 then 14 else if m = 4 then 16 else 18
def stepN (q : Int) : Int := if 0 ≤ q ∧ q ≤ 40 then stepT (q % 6) * 2 ^ (q / 6).toNat else 0
theorem stepT_in (m : Int) : 10 ≤ stepT m ∧ stepT m ≤ 18 := by
 unfold stepT
 repeat' split
 all_goals omega
theorem stepN_in {q : Int} (h : 0 ≤ q ∧ q ≤ 40) : 10 ≤ stepN q ∧ stepN q ≤ 1152 := by
 unfold stepN
 rw [if_pos h]
 have hs := stepT_in (q % 6)
 have hp := pow_le_nat (a := (q / 6).toNat) (b := 6) (by omega)
 have hp1 := pow_ge1 (q / 6).toNat
 have a1 : stepT (q % 6) * 2 ^ (q / 6).toNat ≤ 18 * 2 ^ 6 := Int.mul_le_mul hs.2 hp (by omega) (by omega)
 have a2 : stepT (q % 6) * 1 ≤ stepT (q % 6) * 2 ^ (q / 6).toNat := Int.mul_le_mul_of_nonneg_left hp1 (by omega)
 omega
theorem step_val (q : Int) : impl_StepOf.f q = some (stepN q) := by
 unfold impl_StepOf.f stepN
 simp only [within_eq, Option.bind_some]
 by_cases h : 0 ≤ q ∧ q ≤ 40
 ·have e : wrap64 (Int.tdiv q 6) = q / 6 := by rw [Int.tdiv_eq_ediv_of_nonneg h.1, wrap_id (by omega) (by omega)]
  have g1 : (0 : Int) ≤ q % 6 := by omega
  have g2 : q % 6 < (([10, 11, 13, 14, 16, 18] : List Int).length : Int) := by simp only [List.length_cons, List.length_nil]; omega
  have g3 : (0 : Int) ≤ q / 6 := by omega
  have hr : rd [10, 11, 13, 14, 16, 18] (q % 6) = stepT (q % 6) := by
   have hq : q % 6 = 0 ∨ q % 6 = 1 ∨ q % 6 = 2 ∨ q % 6 = 3 ∨ q % 6 = 4 ∨ q % 6 = 5 := by omega
   generalize q % 6 = m at hq
   rcases hq with rfl | rfl | rfl | rfl | rfl | rfl <;> rfl
  have hs := stepT_in (q % 6)
  simp only [h, and_self, decide_true, if_true, e, Int.tmod_eq_emod_of_nonneg h.1, g1, g2, g3, hr]
  rw [shl_val (by omega) (by omega)]
 ·simp only [h, decide_false, if_false, Bool.false_eq_true]
def largeQ (a s : Int) : Int := (a + s / 2) / s
def largeN (w q : Int) : Int := if (-20000 ≤ w ∧ w ≤ 20000) ∧ 0 ≤ q ∧ q ≤ 40 then sgnN w (largeQ (absN w) (stepN q)) else 0
theorem large_steps {a s : Int} (ha : 0 ≤ a ∧ a ≤ 20000) (hs : 10 ≤ s ∧ s ≤ 1152) : wrap64 (Int.tdiv (wrap64 (a + (wrap64 (Int.tdiv s 2)))) s) = largeQ a s ∧ 0 ≤ largeQ a s ∧ largeQ a s ≤ 30000 := by
 unfold largeQ
 have hq := quot_in (x := a + s / 2) (n := s) (by omega) (by omega)
 rw [Int.tdiv_eq_ediv_of_nonneg (a := s) (by omega), wrap_id (x := s / 2) (by omega) (by omega), wrap_id (x := a + s / 2) (by omega) (by omega), Int.tdiv_eq_ediv_of_nonneg (a := a + s / 2) (by omega)]
 have hb : a + s / 2 ≤ 30000 := by omega
 generalize (a + s / 2) / s = z at hq ⊢
 exact ⟨wrap_id (by omega) (by omega), hq.1, by omega⟩
theorem large_ev (w q : Int) : Ev (fun k => impl_LargeLevel.f k w q) (largeN w q) := by
 have hbad : ∀ x y : Int, Ev (fun k => impl_LargeLevel.j0 k x y true) 0 := fun x y => Ev.step (f := fun _ => some 0) (fun k => by simp only [impl_LargeLevel.j0]; rfl) (Ev.now _)
 unfold impl_LargeLevel.f largeN
 simp only [within_eq, Option.bind_some]
 by_cases h0 : -20000 ≤ w ∧ w ≤ 20000
 ·by_cases h1 : 0 ≤ q ∧ q ≤ 40
  ·simp only [h0, h1, and_self, decide_true, if_true, Bool.not_true]
   have hs := stepN_in h1
   obtain ⟨e1, e2, e3⟩ := large_steps (absN_in h0) hs
   have n0 : ¬ stepN q = 0 := by omega
   refine Ev.step (f := fun _ => some (sgnN w (largeQ (absN w) (stepN q)))) (fun k => ?_) (Ev.now _)
   simp only [impl_LargeLevel.j0, Bool.false_eq_true, if_false, step_val, impl_size.f, Option.bind_some, size_val h0, n0, e1, impl_signed.f]
   unfold sgnN
   by_cases c : w < 0
   ·simp only [c, if_true, Option.bind_some]
    rw [wrap_id (by omega) (by omega)]
   ·simp only [c, if_false, Option.bind_some]
  ·simp only [h0, h1, and_self, and_false, decide_true, decide_false, if_true, if_false, Bool.not_false]
   exact hbad _ _
 ·simp only [h0, false_and, decide_false, if_false, Bool.false_eq_true]
  exact hbad _ _
theorem condB_in {q : Int} {c d : Bool} (h : condB q c d = true) : 0 ≤ q ∧ q ≤ 40 := by
 unfold condB at h
 exact of_decide_eq_true (Bool.and_eq_true _ _ ▸ h).1
def outv (l : List Int) (q : Int) : Nat → List Int
 | 0 => []
 | k + 1 => outv l q k ++ scanv 4 ((turnedL t4 (qv l k)).mapIdx (fun i x => smallN x q (i : Int)))
theorem outv_len (l : List Int) (q : Int) : ∀ k, (outv l q k).length = 16 * k
 | 0 => rfl
 | k + 1 => by rw [outv, List.length_append, outv_len l q k, scanv_len (n := 16) (Or.inl ⟨rfl, rfl⟩)]; omega
theorem qv_ok {l : List Int} (hl : l.length = 64) (hb : allB (-255) 255 l = true) (k : Nat) (hk : k < 4) : FoOk (qv l k) := by
 refine ⟨qv_len l k, allB_iff.2 (fun x hx => ?_)⟩
 obtain ⟨i, hi, rfl⟩ := List.getElem_of_mem hx
 rw [qv_len] at hi
 have hv := qv_get l k i hi
 have hat := atq_lt k i hk hi
 rw [← hv, rd_nat l (atq k i) (by omega)]
 have := allB_iff.1 hb _ (List.getElem_mem (l := l) (n := atq k i) (by omega))
 omega
def levN (l : List Int) (q : Int) (c d : Bool) : List Int × Bool :=
 if (l.length = 64 ∧ allB (-255) 255 l = true) ∧ condB q c d = true then (if d = true then (scanv 8 l, true) else (if c = true then (scanv 8 ((sumsv l).map (largeN · q)), true) else (outv l q 4, true))) else ([], false)
theorem lev_large (l : List Int) (hl : l.length = 64) (a : Bool) (q : Int) (hq : 0 ≤ q ∧ q ≤ 40) (c d : Bool) : Ev (fun k => impl_LevelsOf.l0 k l 64 0 a q c d) (scanv 8 (l.map (largeN · q)), true) := by
 obtain ⟨m, hm⟩ : ∃ m, m = l.map (largeN · q) := ⟨_, rfl⟩
 have lm : m.length = 64 := by rw [hm, List.length_map, hl]
 rw [← hm]
 have H : ∀ i, i ≤ 64 → Ev (fun k => impl_LevelsOf.l0 k (m.take i ++ l.drop i) 64 (i : Int) a q c d) (scanv 8 m, true) := by
  refine down 64 ?_ ?_
  ·have e : m.take 64 ++ l.drop 64 = m := by rw [List.take_of_length_le (by omega), List.drop_eq_nil_of_le (by omega), List.append_nil]
   have hs := scanned_ev 8 m
   rw [if_pos (show ScOk 8 m from Or.inr ⟨rfl, lm⟩)] at hs
   refine Ev.step (f := fun k => (impl_Scanned.f k 8 m).bind fun bt => (some (bt.1, bt.2))) (fun k => ?_) (Ev.bind hs (Ev.now _))
   simp only [impl_LevelsOf.l0]
   rw [if_neg (by omega), e]
  ·intro i hi h
   have hr := mix_rd m l i (by omega) (by omega)
   have hlen := mix_length m l i (by omega) (by omega)
   have hset := mix_set m l i (by omega) (by omega)
   have hv : m[i]'(by omega) = largeN (l[i]'(by omega)) q := by simp [hm]
   rw [hv] at hset
   refine Ev.step (f := fun k => (impl_LargeLevel.f k (l[i]'(by omega)) q).bind fun t => impl_LevelsOf.l0 k ((m.take i ++ l.drop i).set i t) 64 ((i : Int) + 1) a q c d) (fun k => ?_) (Ev.bind (large_ev _ q) ?_)
   ·simp only [impl_LevelsOf.l0]
    rw [if_pos (by omega), if_pos (by omega), if_pos (by rw [hlen]; omega), hr, Int.toNat_natCast, wrap_id (x := (i : Int) + 1) (by omega) (by omega)]
   ·rw [hset]
    exact h
 have h0 := H 0 (by omega)
 exact h0
theorem lev_small (x0 out : List Int) (kk : Nat) (hk : kk < 4) (ho : out.length = 16 * kk) (l : List Int) (hl : l.length = 16) (a : Bool) (q : Int) (c d : Bool) (R : List Int × Bool)
  (h : Ev (fun k => impl_LevelsOf.l1 k x0 (out ++ scanv 4 (l.mapIdx (fun i x => smallN x q (i : Int)))) ((kk + 1 : Nat) : Int) a q c d) R) : Ev (fun k => impl_LevelsOf.l3 k x0 out l (kk : Int) 16 0 a q c d) R := by
 obtain ⟨m, hm⟩ : ∃ m, m = l.mapIdx (fun i x => smallN x q (i : Int)) := ⟨_, rfl⟩
 have lm : m.length = 16 := by rw [hm, List.length_mapIdx, hl]
 rw [← hm] at h
 have H : ∀ i, i ≤ 16 → Ev (fun k => impl_LevelsOf.l3 k x0 out (m.take i ++ l.drop i) (kk : Int) 16 (i : Int) a q c d) R := by
  refine down 16 ?_ ?_
  ·have e : m.take 16 ++ l.drop 16 = m := by rw [List.take_of_length_le (by omega), List.drop_eq_nil_of_le (by omega), List.append_nil]
   have hs := scanned_ev 4 m
   rw [if_pos (show ScOk 4 m from Or.inl ⟨rfl, lm⟩)] at hs
   have hz : (scanv 4 m).length = 16 := scanv_len (Or.inl ⟨rfl, rfl⟩) m
   refine Ev.step (f := fun k => (impl_Scanned.f k 4 m).bind fun bt => (if out.length + bt.1.length < 17592186044416 then (impl_LevelsOf.l1 k x0 (out ++ bt.1) ((kk : Int) + 1) a q c d) else none)) (fun k => ?_) (Ev.bind hs ?_)
   ·simp only [impl_LevelsOf.l3]
    rw [if_neg (by omega), e, wrap_id (x := (kk : Int) + 1) (by omega) (by omega)]
   ·have g : out.length + (scanv 4 m).length < 17592186044416 := by omega
    simp only [g, if_true]
    exact h
  ·intro i hi h1
   have hr := mix_rd m l i (by omega) (by omega)
   have hlen := mix_length m l i (by omega) (by omega)
   have hset := mix_set m l i (by omega) (by omega)
   have hv : m[i]'(by omega) = smallN (l[i]'(by omega)) q (i : Int) := by simp [hm]
   rw [hv] at hset
   refine Ev.step (f := fun k => (impl_SmallLevel.f k (l[i]'(by omega)) q (i : Int)).bind fun t => impl_LevelsOf.l3 k x0 out ((m.take i ++ l.drop i).set i t) (kk : Int) 16 ((i : Int) + 1) a q c d) (fun k => ?_) (Ev.bind (small_ev _ q _) ?_)
   ·simp only [impl_LevelsOf.l3]
    rw [if_pos (by omega), if_pos (by omega), if_pos (by rw [hlen]; omega), hr, Int.toNat_natCast, wrap_id (x := (i : Int) + 1) (by omega) (by omega)]
   ·rw [hset]
    exact h1
 have h0 := H 0 (by omega)
 exact h0
theorem lev_take (l : List Int) (hl : l.length = 64) (out : List Int) (kk : Nat) (hk : kk < 4) (a : Bool) (q : Int) (c d : Bool) (R : List Int × Bool)
  (h : Ev (fun k => impl_LevelsOf.l3 k l out (turnedL t4 (qv l kk)) (kk : Int) 16 0 a q c d) R) (hf : FoOk (qv l kk)) : Ev (fun k => impl_LevelsOf.l2 k l out [] (kk : Int) (qL kk) 16 0 a q c d) R := by
 have lq := qv_len l kk
 have H : ∀ i, i ≤ 16 → Ev (fun k => impl_LevelsOf.l2 k l out ((qv l kk).take i) (kk : Int) (qL kk) 16 (i : Int) a q c d) R := by
  refine down 16 ?_ ?_
  ·have e : (qv l kk).take 16 = qv l kk := List.take_of_length_le (by omega)
   have hs := four_ev (qv l kk) (by omega)
   rw [if_pos hf] at hs
   have ht : ((turnedL t4 (qv l kk)).length : Int) = 16 := by rw [turnedL_len, lq]; rfl
   refine Ev.step (f := fun k => (impl_Four.f k (qv l kk)).bind fun t => (impl_LevelsOf.l3 k l out t (kk : Int) (t.length : Int) 0 a q c d)) (fun k => ?_) (Ev.bind hs ?_)
   ·simp only [impl_LevelsOf.l2]
    rw [if_neg (by omega), e]
   ·rw [ht]
    exact h
  ·intro i hi h1
   have hq := qL_rd kk i hi
   have hv := qv_get l kk i hi
   have hat := atq_lt kk i hk hi
   refine Ev.step (fun k => ?_) h1
   simp only [impl_LevelsOf.l2]
   rw [if_pos (by omega), if_pos (by omega), if_pos (by rw [qL_len]; omega), hq, if_pos (by omega), if_pos (by omega), if_pos (by rw [List.length_take]; omega), wrap_id (x := (i : Int) + 1) (by omega) (by omega), hv, take_snoc' _ i (by omega), cast1]
 exact H 0 (by omega)
theorem lev_rounds (l : List Int) (hl : l.length = 64) (hb : allB (-255) 255 l = true) (a : Bool) (q : Int) (c d : Bool) : Ev (fun k => impl_LevelsOf.l1 k l [] 0 a q c d) (outv l q 4, true) := by
 have H : ∀ kk, kk ≤ 4 → Ev (fun k => impl_LevelsOf.l1 k l (outv l q kk) (kk : Int) a q c d) (outv l q 4, true) := by
  refine down 4 ?_ ?_
  ·exact Ev.step (f := fun _ => some (outv l q 4, true)) (fun k => by simp only [impl_LevelsOf.l1]; rw [if_neg (by omega)]) (Ev.now _)
  ·intro kk hk h
   have hf := qv_ok hl hb kk hk
   have h3 := lev_small l (outv l q kk) kk hk (outv_len l q kk) (turnedL t4 (qv l kk)) (by rw [turnedL_len, qv_len]) a q c d _ h
   have h2 := lev_take l hl (outv l q kk) kk hk a q c d _ h3 hf
   refine Ev.step (f := fun k => (impl_quarter.f k (kk : Int)).bind fun t => (impl_LevelsOf.l2 k l (outv l q kk) [] (kk : Int) t (t.length : Int) 0 a q c d)) (fun k => ?_) (Ev.bind (quarter_ev kk hk) ?_)
   ·simp only [impl_LevelsOf.l1]
    rw [if_pos (by omega)]
   ·rw [qL_len]
    exact h2
 exact H 0 (by omega)
theorem levelsof_ev (l : List Int) (hl : l.length ≤ 17592186043904) (a : Bool) (q : Int) (c d : Bool) : Ev (fun k => impl_LevelsOf.f k l a q c d) (levN l q c d) := by
 have hbad : Ev (fun k => impl_LevelsOf.j0 k l true a q c d) ([], false) := Ev.step (f := fun _ => some ([], false)) (fun k => by simp only [impl_LevelsOf.j0]; rfl) (Ev.now _)
 unfold impl_LevelsOf.f levN
 refine Ev.bind (areIn_ev l 64 (-255) 255 hl) ?_
 rw [len_dec4 l 64 64 rfl]
 by_cases h0 : l.length = 64 ∧ allB (-255) 255 l = true
 ·rw [decide_eq_true h0.1, h0.2]
  simp only [Bool.and_self, if_true, cond_val, Option.bind_some]
  cases hc : condB q c d with
  | false =>
   rw [if_neg (fun h => by cases h.2)]
   exact hbad
  | true =>
   rw [if_pos ⟨⟨h0.1, trivial⟩, rfl⟩]
   have hq := condB_in hc
   cases d with
   | true =>
    have hs := scanned_ev 8 l
    rw [if_pos (show ScOk 8 l from Or.inr ⟨rfl, h0.1⟩)] at hs
    refine Ev.step (fun k => by simp only [impl_LevelsOf.j0, Bool.not_true, Bool.false_eq_true, if_false, if_true]; rfl) (Ev.bind hs ?_)
    simp only [if_true]; exact Ev.now _
   | false =>
    cases c with
    | true =>
     have he := eight_ev l hl
     rw [if_pos (show EiOk l from ⟨h0.1, allB_iff.2 (fun x hx => by have := allB_iff.1 h0.2 x hx; omega)⟩)] at he
     have hL : ((sumsv l).length : Int) = 64 := by rw [sumsv_len]; rfl
     refine Ev.step (fun k => by simp only [impl_LevelsOf.j0, Bool.not_true, Bool.false_eq_true, if_false, if_true]; rfl) (Ev.bind he ?_)
     rw [hL]
     exact lev_large (sumsv l) (sumsv_len l) a q hq true false
    | false =>
     refine Ev.step (fun k => by simp only [impl_LevelsOf.j0, Bool.not_true, Bool.false_eq_true, if_false]) (lev_rounds l h0.1 h0.2 a q false false)
 ·rw [and_false4 h0, if_neg (fun h => h0 h.1)]
  simp only [Bool.false_eq_true, if_false]
  exact hbad
def down64 (x : Int) : Int := (x + 32) / 64
def settledL (l : List Int) : List Int := l.map down64
theorem settledL_len (l : List Int) : (settledL l).length = l.length := by simp [settledL]
theorem down_eq {x : Int} (h0 : -1000000000000 ≤ x) (h1 : x ≤ 1000000000000) :
  (if (64 : Int) = 0 then (none : Option Int) else (if (Int.tmod (wrap64 (x + 32)) 64) < 0 then (some (wrap64 ((wrap64 (Int.tdiv (wrap64 (x + 32)) 64)) - 1))) else (some (wrap64 (Int.tdiv (wrap64 (x + 32)) 64))))) = some (down64 x) := by
 rw [if_neg (by omega), wrap_id (x := x + 32) (by omega) (by omega)]
 unfold down64
 generalize hy : x + 32 = y
 have h2 : -1000000000100 ≤ y := by omega
 have h3 : y ≤ 1000000000100 := by omega
 clear hy h0 h1
 have hd : Int.tdiv y 64 * 64 + Int.tmod y 64 = y := Int.tdiv_mul_add_tmod y 64
 by_cases c : Int.tmod y 64 < 0
 ·have hl : -64 < Int.tmod y 64 := by
   have := Int.lt_tmod_of_pos y (b := 64) (by omega)
   omega
  rw [if_pos c, wrap_id (x := Int.tdiv y 64) (by omega) (by omega), wrap_id (by omega) (by omega)]
  congr 1
  omega
 ·have hl : Int.tmod y 64 < 64 := Int.tmod_lt_of_pos y (by omega)
  rw [if_neg c, wrap_id (x := Int.tdiv y 64) (by omega) (by omega)]
  congr 1
  omega
/-- A row that is settled up to i. -/
def setTo (l : List Int) (i : Nat) : List Int := (settledL l).take i ++ l.drop i
theorem setTo_len (l : List Int) (i : Nat) (h : i ≤ l.length) : (setTo l i).length = l.length := by
 unfold setTo
 rw [List.length_append, List.length_take, List.length_drop, settledL_len]
 omega
theorem setTo_rd (l : List Int) (i : Nat) (h : i < l.length) : rd (setTo l i) (i : Int) = l[i] := by
 unfold rd setTo
 rw [Int.toNat_natCast, List.getD_eq_getElem?_getD, List.getElem?_append_right (by rw [List.length_take, settledL_len]; omega), List.length_take, settledL_len, Nat.min_eq_left (by omega), Nat.sub_self, List.getElem?_drop, Nat.add_zero, List.getElem?_eq_getElem h]
 rfl
theorem setTo_set (l : List Int) (i : Nat) (h : i < l.length) : (setTo l i).set i (down64 l[i]) = setTo l (i + 1) := by
 have e : down64 l[i] = (settledL l)[i]'(by rw [settledL_len]; exact h) := by simp [settledL]
 rw [e]
 exact mix_set (settledL l) l i (by rw [settledL_len]; exact h) h
theorem setTo_end (l : List Int) : setTo l l.length = settledL l := by
 unfold setTo
 rw [List.drop_length, List.append_nil, List.take_of_length_le (by rw [settledL_len]; omega)]
theorem settled_ev (l : List Int) (hl : l.length ≤ 17592186043904) (hb : ∀ x ∈ l, -1000000000000 ≤ x ∧ x ≤ 1000000000000) : Ev (fun k => impl_settled.f k l) (settledL l) := by
 have H : ∀ i, i ≤ l.length → Ev (fun k => impl_settled.l0 k (setTo l i) (l.length : Int) (i : Int)) (settledL l) := by
  refine down l.length ?_ ?_
  ·refine Ev.step (f := fun _ => some (settledL l)) (fun k => ?_) (Ev.now _)
   simp only [impl_settled.l0]
   rw [if_neg (by omega), setTo_end]
  ·intro i hi h
   have hx := hb l[i] (List.getElem_mem _)
   refine Ev.step (fun k => ?_) h
   simp only [impl_settled.l0]
   rw [if_pos (by omega), if_pos (by omega), if_pos (by rw [setTo_len l i (by omega)]; omega), setTo_rd l i hi]
   unfold impl_floor.f
   rw [down_eq hx.1 hx.2, Option.bind_some, Int.toNat_natCast, setTo_set l i hi, wrap_id (by omega) (by omega), cast1]
 have h0 := H 0 (by omega)
 unfold impl_settled.f
 exact h0
def FbOk (x : List Int) : Prop := x.length = 16 ∧ allB (-10000000) 10000000 x = true
instance (x : List Int) : Decidable (FbOk x) := by unfold FbOk; infer_instance
def fbv (x : List Int) : List Int := if FbOk x then settledL (turnedL b4 x) else []
theorem fl2_small {x M : Int} (hM : M ≤ 1000000000000) (h0 : -M ≤ x) (h1 : x ≤ M) : -M - 1 ≤ fl2 x ∧ fl2 x ≤ M := by
 unfold fl2
 have hd : Int.tdiv x 2 * 2 + Int.tmod x 2 = x := Int.tdiv_mul_add_tmod x 2
 have hl : -2 < Int.tmod x 2 := by have := Int.lt_tmod_of_pos x (b := 2) (by omega); omega
 have hr : Int.tmod x 2 < 2 := Int.tmod_lt_of_pos x (by omega)
 generalize Int.tmod x 2 = m at hd hl hr
 generalize Int.tdiv x 2 = q at hd
 split
 ·rw [wrap_id (x := q) (by omega) (by omega), wrap_id (by omega) (by omega)]; omega
 ·rw [wrap_id (x := q) (by omega) (by omega)]; omega
theorem b4_small {a b c d M : Int} (hM : M ≤ 200000000000) (ha : -M ≤ a ∧ a ≤ M) (hb : -M ≤ b ∧ b ≤ M) (hc : -M ≤ c ∧ c ≤ M) (hd : -M ≤ d ∧ d ≤ M) :
  (-(4 * M + 4) ≤ (b4 a b c d).1 ∧ (b4 a b c d).1 ≤ 4 * M + 4) ∧ (-(4 * M + 4) ≤ (b4 a b c d).2.1 ∧ (b4 a b c d).2.1 ≤ 4 * M + 4) ∧ (-(4 * M + 4) ≤ (b4 a b c d).2.2.1 ∧ (b4 a b c d).2.2.1 ≤ 4 * M + 4) ∧ (-(4 * M + 4) ≤ (b4 a b c d).2.2.2 ∧ (b4 a b c d).2.2.2 ≤ 4 * M + 4) := by
 have h1 := fl2_small (x := b) (M := M) (by omega) hb.1 hb.2
 have h2 := fl2_small (x := d) (M := M) (by omega) hd.1 hd.2
 unfold b4
 generalize fl2 b = p at h1
 generalize fl2 d = q at h2
 dsimp only
 rw [wrap_id (x := a + c) (by omega) (by omega), wrap_id (x := a - c) (by omega) (by omega), wrap_id (x := b + q) (by omega) (by omega), wrap_id (x := p - d) (by omega) (by omega)]
 rw [wrap_id (x := a + c + (b + q)) (by omega) (by omega), wrap_id (x := a - c + (p - d)) (by omega) (by omega), wrap_id (x := a - c - (p - d)) (by omega) (by omega), wrap_id (x := a + c - (b + q)) (by omega) (by omega)]
 omega
def InM (M : Int) (x : List Int) : Prop := ∀ v ∈ x, -M ≤ v ∧ v ≤ M
theorem rd_in {M : Int} {x : List Int} (hM : 0 ≤ M) (h : InM M x) (i : Int) : -M ≤ rd x i ∧ rd x i ≤ M := by
 unfold rd
 rw [List.getD_eq_getElem?_getD]
 cases e : x[i.toNat]? with
 | none => simp; omega
 | some v => exact h v (List.mem_of_getElem? e)
theorem set_in {M : Int} {x : List Int} (h : InM M x) (i : Nat) {v : Int} (hv : -M ≤ v ∧ v ≤ M) : InM M (x.set i v) := by
 intro u hu
 rcases List.mem_or_eq_of_mem_set hu with h1 | h1
 ·exact h u h1
 ·rw [h1]; exact hv
theorem grow_in {M N : Int} {x : List Int} (h : InM M x) (hN : M ≤ N) : InM N x := fun v hv => by have := h v hv; omega
theorem rowT_in {M : Int} {x : List Int} (hM : 0 ≤ M) (hM' : M ≤ 200000000000) (h : InM M x) (r : Nat) : InM (4 * M + 4) (rowT b4 x r) := by
 unfold rowT
 have s := b4_small hM' (rd_in hM h r) (rd_in hM h (r + 1 : Nat)) (rd_in hM h (r + 2 : Nat)) (rd_in hM h (r + 3 : Nat))
 exact set_in (set_in (set_in (set_in (grow_in h (by omega)) _ s.1) _ s.2.1) _ s.2.2.1) _ s.2.2.2
theorem colT_in {M : Int} {x : List Int} (hM : 0 ≤ M) (hM' : M ≤ 200000000000) (h : InM M x) (r : Nat) : InM (4 * M + 4) (colT b4 x r) := by
 unfold colT
 have s := b4_small hM' (rd_in hM h r) (rd_in hM h (r + 4 : Nat)) (rd_in hM h (r + 8 : Nat)) (rd_in hM h (r + 12 : Nat))
 exact set_in (set_in (set_in (set_in (grow_in h (by omega)) _ s.1) _ s.2.1) _ s.2.2.1) _ s.2.2.2
theorem turned_small {x : List Int} (h : FbOk x) : ∀ v ∈ turnedL b4 x, -1000000000000 ≤ v ∧ v ≤ 1000000000000 := by
 have h0 : InM 10000000 x := fun v hv => by have := allB_iff.1 h.2 v hv; omega
 have h1 := rowT_in (by omega) (by omega) h0 (4 * 0)
 have h2 := rowT_in (by omega) (by omega) h1 (4 * 1)
 have h3 := rowT_in (by omega) (by omega) h2 (4 * 2)
 have h4 := rowT_in (by omega) (by omega) h3 (4 * 3)
 have h5 := colT_in (by omega) (by omega) h4 0
 have h6 := colT_in (by omega) (by omega) h5 1
 have h7 := colT_in (by omega) (by omega) h6 2
 have h8 := colT_in (by omega) (by omega) h7 3
 exact grow_in h8 (by omega)
theorem fourback_ev (x : List Int) (hx : x.length ≤ 17592186043904) : Ev (fun k => impl_FourBack.f k x) (fbv x) := by
 unfold impl_FourBack.f fbv
 refine Ev.bind (areIn_ev x 16 (-10000000) 10000000 hx) ?_
 rw [len_dec4 x 16 16 rfl]
 by_cases c : FbOk x
 ·rw [if_pos c, decide_eq_true c.1, c.2]
  simp only [Bool.and_self, if_true]
  simp only [if_pos c.1]
  exact Ev.bind (settled_ev _ (by rw [turnedL_len, c.1]; omega) (turned_small c)) (Ev.now _)
 ·rw [if_neg c, and_false4 c]
  simp only [Bool.false_eq_true, if_false]; exact Ev.now _
def EbOk (x : List Int) : Prop := x.length = 64 ∧ allB (-10000000) 10000000 x = true
instance (x : List Int) : Decidable (EbOk x) := by unfold EbOk; infer_instance
def ebv (x : List Int) : List Int := if EbOk x then settledL (sumsv x) else []
theorem sumsv_small {x : List Int} (h : EbOk x) : ∀ v ∈ sumsv x, -1000000000000 ≤ v ∧ v ≤ 1000000000000 := by
 have := allB_iff.1 (sumsv_all h.1 h.2)
 intro v hv
 have h1 := this v hv
 omega
theorem eightback_ev (x : List Int) (hx : x.length ≤ 17592186043904) : Ev (fun k => impl_EightBack.f k x) (ebv x) := by
 unfold impl_EightBack.f ebv
 refine Ev.bind (areIn_ev x 64 (-10000000) 10000000 hx) ?_
 rw [len_dece x 64 64 rfl]
 by_cases c : EbOk x
 ·rw [if_pos c, decide_eq_true c.1, c.2]
  simp only [Bool.and_self, if_true]
  exact Ev.bind (sums_ev x c.1 10000000 (by omega) c.2) (Ev.bind (settled_ev _ (by rw [sumsv_len]; omega) (sumsv_small c)) (Ev.now _))
 ·rw [if_neg c, and_falsee c]
  simp only [Bool.false_eq_true, if_false]; exact Ev.now _
def scaleN (q p : Int) : Int := if (0 ≤ q ∧ q ≤ 40) ∧ 0 ≤ p ∧ p ≤ 15 then scaleT (q % 6) (kindN p) * 2 ^ (q / 6).toNat else 0
theorem scaleT_in (q k : Int) : 10 ≤ scaleT q k ∧ scaleT q k ≤ 29 := by
 unfold scaleT
 repeat' split
 all_goals omega
theorem scale_ev (q p : Int) : Ev (fun k => impl_ScaleOf.f k q p) (scaleN q p) := by
 unfold impl_ScaleOf.f scaleN
 simp only [within_eq, Option.bind_some]
 by_cases h1 : 0 ≤ q ∧ q ≤ 40
 ·by_cases h2 : 0 ≤ p ∧ p ≤ 15
  ·simp only [if_true, h1, h2, and_self, decide_true]
   refine Ev.bind (kind_ev p) ?_
   have hs := scaleT_in (q % 6) (kindN p)
   have e : wrap64 (Int.tdiv q 6) = q / 6 := by rw [Int.tdiv_eq_ediv_of_nonneg h1.1, wrap_id (by omega) (by omega)]
   rw [if_pos (kindN_in h2), Int.tmod_eq_emod_of_nonneg h1.1, e, shl_val (by omega) (by omega)]
   exact Ev.now _
  ·simp only [h1, and_self, decide_true, decide_eq_false h2, if_true, h2, and_false, if_false, Bool.false_eq_true]
   exact Ev.now _
 ·simp only [decide_eq_false h1, if_false, h1, false_and, Bool.false_eq_true]
  exact Ev.now _
def largeB (x q : Int) : Int := if -5000 ≤ x ∧ x ≤ 5000 then wrap64 (x * stepN q) else 0
def smallB (x q p : Int) : Int := if -5000 ≤ x ∧ x ≤ 5000 then wrap64 (x * scaleN q p) else 0
theorem mul_in {x s a b : Int} (hx : -a ≤ x ∧ x ≤ a) (hs : 0 ≤ s ∧ s ≤ b) (ha : 0 ≤ a) : -(a * b) ≤ x * s ∧ x * s ≤ a * b := by
 have h1 : x * s ≤ a * s := Int.mul_le_mul_of_nonneg_right hx.2 hs.1
 have h2 : a * s ≤ a * b := Int.mul_le_mul_of_nonneg_left hs.2 ha
 have h3 : -a * s ≤ x * s := Int.mul_le_mul_of_nonneg_right hx.1 hs.1
 rw [Int.neg_mul] at h3
 omega
theorem scaleN_in {q : Int} (hq : 0 ≤ q ∧ q ≤ 40) (p : Int) : 0 ≤ scaleN q p ∧ scaleN q p ≤ 1856 := by
 unfold scaleN
 split
 ·have h := scaleT_in (q % 6) (kindN p)
  have e : (q / 6).toNat ≤ 6 := by omega
  have h2 : (1 : Int) ≤ 2 ^ (q / 6).toNat ∧ (2 : Int) ^ (q / 6).toNat ≤ 64 := by
   generalize (q / 6).toNat = n at e
   have : n = 0 ∨ n = 1 ∨ n = 2 ∨ n = 3 ∨ n = 4 ∨ n = 5 ∨ n = 6 := by omega
   rcases this with rfl | rfl | rfl | rfl | rfl | rfl | rfl <;> decide
  have h3 := mul_in (x := scaleT (q % 6) (kindN p)) (s := 2 ^ (q / 6).toNat) (a := 29) (b := 64) (by omega) (by omega) (by omega)
  have h4 : 0 ≤ scaleT (q % 6) (kindN p) * 2 ^ (q / 6).toNat := Int.mul_nonneg (by omega) (by omega)
  omega
 ·omega
theorem smallB_in {q : Int} (hq : 0 ≤ q ∧ q ≤ 40) (x p : Int) : -10000000 ≤ smallB x q p ∧ smallB x q p ≤ 10000000 := by
 unfold smallB
 split
 ·rename_i hx
  have h := mul_in (x := x) (s := scaleN q p) (a := 5000) (b := 1856) (by omega) (scaleN_in hq p) (by omega)
  rw [wrap_id (by omega) (by omega)]
  omega
 ·omega
theorem smallB_ok (l : List Int) (hl : l.length = 16) {q : Int} (hq : 0 ≤ q ∧ q ≤ 40) : FbOk (l.mapIdx (fun i x => smallB x q (i : Int))) := by
 refine ⟨by rw [List.length_mapIdx, hl], allB_iff.2 (fun v hv => ?_)⟩
 obtain ⟨i, hi, rfl⟩ := List.getElem_of_mem hv
 rw [List.getElem_mapIdx]
 exact smallB_in hq _ _
theorem fbv_len16 {m : List Int} (h : FbOk m) : (fbv m).length = 16 := by rw [fbv, if_pos h, settledL_len, turnedL_len, h.1]
def scat (out : List Int) (kk : Nat) (v : List Int) : Nat → List Int
 | 0 => out
 | i + 1 => (scat out kk v i).set (atq kk i) (rd v (i : Int))
theorem scat_len (out : List Int) (kk : Nat) (v : List Int) : ∀ i, (scat out kk v i).length = out.length
 | 0 => rfl
 | i + 1 => by rw [scat, List.length_set, scat_len out kk v i]
def slc (l : List Int) (kk : Nat) : List Int := (l.take (16 * kk + 16)).drop (16 * kk)
theorem slc_len (l : List Int) (hl : l.length = 64) (kk : Nat) (hk : kk < 4) : (slc l kk).length = 16 := by
 unfold slc
 rw [List.length_drop, List.length_take]
 omega
def outb (l : List Int) (q : Int) : Nat → List Int
 | 0 => List.replicate 64 0
 | kk + 1 => scat (outb l q kk) kk (fbv ((unscv 4 (slc l kk)).mapIdx (fun i x => smallB x q (i : Int)))) 16
theorem outb_len (l : List Int) (q : Int) : ∀ k, (outb l q k).length = 64
 | 0 => by simp [outb]
 | k + 1 => by rw [outb, scat_len, outb_len l q k]
def lbN (l : List Int) (q : Int) (c d : Bool) : List Int × Bool :=
 if (l.length = 64 ∧ allB (-5000) 5000 l = true) ∧ condB q c d = true then (if d = true then (unscv 8 l, true) else (if c = true then (ebv ((unscv 8 l).map (largeB · q)), true) else (outb l q 4, true))) else ([], false)
theorem Ev.of_some {α : Type} {x : Option α} {v : α} (h : x = some v) : Ev (fun _ => x) v := by rw [h]; exact Ev.now _
theorem largeback_val {q : Int} (hq : 0 ≤ q ∧ q ≤ 40) (x : Int) : impl_LargeBack.f x q = some (largeB x q) := by
 unfold impl_LargeBack.f largeB
 rw [within_eq, Option.bind_some]
 by_cases c : -5000 ≤ x ∧ x ≤ 5000
 ·rw [if_pos (decide_eq_true c), if_pos c, step_val, Option.bind_some]
 ·rw [if_neg (by simpa using c), if_neg c]
theorem smallback_ev (x q p : Int) : Ev (fun k => impl_SmallBack.f k x q p) (smallB x q p) := by
 unfold impl_SmallBack.f smallB
 simp only [within_eq, Option.bind_some]
 by_cases c : -5000 ≤ x ∧ x ≤ 5000
 ·rw [if_pos c]
  simp only [decide_eq_true c, if_true]
  exact Ev.bind (scale_ev q p) (Ev.now _)
 ·rw [if_neg c]
  simp only [decide_eq_false c, Bool.false_eq_true, if_false]
  exact Ev.now _
theorem back_large (l : List Int) (hl : l.length = 64) (a : Bool) (q : Int) (hq : 0 ≤ q ∧ q ≤ 40) (c d : Bool) : Ev (fun k => impl_LevelsBack.l0 k l 64 0 a q c d) (ebv (l.map (largeB · q)), true) := by
 obtain ⟨m, hm⟩ : ∃ m, m = l.map (largeB · q) := ⟨_, rfl⟩
 have lm : m.length = 64 := by rw [hm, List.length_map, hl]
 rw [← hm]
 have H : ∀ i, i ≤ 64 → Ev (fun k => impl_LevelsBack.l0 k (m.take i ++ l.drop i) 64 (i : Int) a q c d) (ebv m, true) := by
  refine down 64 ?_ ?_
  ·have e : m.take 64 ++ l.drop 64 = m := by rw [List.take_of_length_le (by omega), List.drop_eq_nil_of_le (by omega), List.append_nil]
   refine Ev.step (f := fun k => (impl_EightBack.f k m).bind fun t => (some (t, true))) (fun k => ?_) (Ev.bind (eightback_ev m (by omega)) (Ev.now _))
   simp only [impl_LevelsBack.l0]
   rw [if_neg (by omega), e]
  ·intro i hi h
   have hr := mix_rd m l i (by omega) (by omega)
   have hlen := mix_length m l i (by omega) (by omega)
   have hset := mix_set m l i (by omega) (by omega)
   have hv : m[i]'(by omega) = largeB (l[i]'(by omega)) q := by simp [hm]
   rw [hv] at hset
   refine Ev.step (f := fun k => (impl_LargeBack.f (l[i]'(by omega)) q).bind fun t => impl_LevelsBack.l0 k ((m.take i ++ l.drop i).set i t) 64 ((i : Int) + 1) a q c d) (fun k => ?_) (Ev.bind (Ev.of_some (largeback_val hq _)) ?_)
   ·simp only [impl_LevelsBack.l0]
    rw [if_pos (by omega), if_pos (by omega), if_pos (by rw [hlen]; omega), hr, Int.toNat_natCast, wrap_id (x := (i : Int) + 1) (by omega) (by omega)]
   ·rw [hset]
    exact h
 have h0 := H 0 (by omega)
 exact h0
theorem back_scat (x0 out v : List Int) (kk : Nat) (hk : kk < 4) (ho : out.length = 64) (hv : v.length = 16) (a : Bool) (q : Int) (c d : Bool) (R : List Int × Bool)
  (h : Ev (fun k => impl_LevelsBack.l1 k x0 (scat out kk v 16) ((kk + 1 : Nat) : Int) a q c d) R) : Ev (fun k => impl_LevelsBack.l3 k x0 out v (kk : Int) (qL kk) 16 0 a q c d) R := by
 have H : ∀ i, i ≤ 16 → Ev (fun k => impl_LevelsBack.l3 k x0 (scat out kk v i) v (kk : Int) (qL kk) 16 (i : Int) a q c d) R := by
  refine down 16 ?_ ?_
  ·refine Ev.step (fun k => ?_) h
   simp only [impl_LevelsBack.l3]
   rw [if_neg (by omega), wrap_id (x := (kk : Int) + 1) (by omega) (by omega), cast1]
  ·intro i hi h1
   have hq := qL_rd kk i hi
   have hat := atq_lt kk i hk hi
   refine Ev.step (fun k => ?_) h1
   simp only [impl_LevelsBack.l3]
   rw [if_pos (by omega), if_pos (by omega), if_pos (by rw [qL_len]; omega), if_pos (by omega), hq, if_pos (by omega), if_pos (by rw [scat_len, ho]; omega), Int.toNat_natCast, wrap_id (x := (i : Int) + 1) (by omega) (by omega), cast1]
   rfl
 exact H 0 (by omega)
theorem back_small (x0 out : List Int) (kk : Nat) (hk : kk < 4) (ho : out.length = 64) (l : List Int) (hl : l.length = 16) (a : Bool) (q : Int) (hq : 0 ≤ q ∧ q ≤ 40) (c d : Bool) (R : List Int × Bool)
  (h : Ev (fun k => impl_LevelsBack.l1 k x0 (scat out kk (fbv (l.mapIdx (fun i x => smallB x q (i : Int)))) 16) ((kk + 1 : Nat) : Int) a q c d) R) : Ev (fun k => impl_LevelsBack.l2 k x0 out (kk : Int) l (kk : Int) 16 0 a q c d) R := by
 have hok := smallB_ok l hl hq
 obtain ⟨m, hm⟩ : ∃ m, m = l.mapIdx (fun i x => smallB x q (i : Int)) := ⟨_, rfl⟩
 have lm : m.length = 16 := by rw [hm, List.length_mapIdx, hl]
 rw [← hm] at h hok
 have H : ∀ i, i ≤ 16 → Ev (fun k => impl_LevelsBack.l2 k x0 out (kk : Int) (m.take i ++ l.drop i) (kk : Int) 16 (i : Int) a q c d) R := by
  refine down 16 ?_ ?_
  ·have e : m.take 16 ++ l.drop 16 = m := by rw [List.take_of_length_le (by omega), List.drop_eq_nil_of_le (by omega), List.append_nil]
   have hF : ((fbv m).length : Nat) = 16 := fbv_len16 hok
   refine Ev.step (f := fun k => (impl_FourBack.f k m).bind fun t => ((impl_quarter.f k (kk : Int)).bind fun u => (impl_LevelsBack.l3 k x0 out t (kk : Int) u (u.length : Int) 0 a q c d))) (fun k => ?_) (Ev.bind (fourback_ev m (by omega)) (Ev.bind (quarter_ev kk hk) ?_))
   ·simp only [impl_LevelsBack.l2]
    rw [if_neg (by omega), e]
   ·rw [qL_len]
    exact back_scat x0 out (fbv m) kk hk ho hF a q c d R h
  ·intro i hi h1
   have hr := mix_rd m l i (by omega) (by omega)
   have hlen := mix_length m l i (by omega) (by omega)
   have hset := mix_set m l i (by omega) (by omega)
   have hv : m[i]'(by omega) = smallB (l[i]'(by omega)) q (i : Int) := by simp [hm]
   rw [hv] at hset
   refine Ev.step (f := fun k => (impl_SmallBack.f k (l[i]'(by omega)) q (i : Int)).bind fun t => impl_LevelsBack.l2 k x0 out (kk : Int) ((m.take i ++ l.drop i).set i t) (kk : Int) 16 ((i : Int) + 1) a q c d) (fun k => ?_) (Ev.bind (smallback_ev _ q _) ?_)
   ·simp only [impl_LevelsBack.l2]
    rw [if_pos (by omega), if_pos (by omega), if_pos (by rw [hlen]; omega), hr, Int.toNat_natCast, wrap_id (x := (i : Int) + 1) (by omega) (by omega)]
   ·rw [hset]
    exact h1
 have h0 := H 0 (by omega)
 exact h0
theorem back_rounds (l : List Int) (hl : l.length = 64) (a : Bool) (q : Int) (hq : 0 ≤ q ∧ q ≤ 40) (c d : Bool) : Ev (fun k => impl_LevelsBack.l1 k l (List.replicate 64 0) 0 a q c d) (outb l q 4, true) := by
 have H : ∀ kk, kk ≤ 4 → Ev (fun k => impl_LevelsBack.l1 k l (outb l q kk) (kk : Int) a q c d) (outb l q 4, true) := by
  refine down 4 ?_ ?_
  ·exact Ev.step (f := fun _ => some (outb l q 4, true)) (fun k => by simp only [impl_LevelsBack.l1]; rw [if_neg (by omega)]) (Ev.now _)
  ·intro kk hk h
   have lz := slc_len l hl kk hk
   have h3 := back_small l (outb l q kk) kk hk (outb_len l q kk) (unscv 4 (slc l kk)) (by rw [unscv_len, lz]) a q hq c d _ h
   have hs := unscanned_ev 4 (slc l kk)
   rw [if_pos (show ScOk 4 (slc l kk) from Or.inl ⟨rfl, lz⟩)] at hs
   have e1 : wrap64 (16 * (kk : Int)) = ((16 * kk : Nat) : Int) := by rw [wrap_id (by omega) (by omega)]; omega
   have e2 : wrap64 (((16 * kk : Nat) : Int) + 16) = ((16 * kk + 16 : Nat) : Int) := by rw [wrap_id (by omega) (by omega)]; omega
   refine Ev.step (f := fun k => (impl_Unscanned.f k 4 (slc l kk)).bind fun bt => (impl_LevelsBack.l2 k l (outb l q kk) (kk : Int) bt.1 (kk : Int) (bt.1.length : Int) 0 a q c d)) (fun k => ?_) (Ev.bind hs ?_)
   ·simp only [impl_LevelsBack.l1, e1, e2]
    rw [if_pos (by omega), if_pos (by omega), if_pos (by omega), if_pos (by omega), Int.toNat_natCast, Int.toNat_natCast]
    rfl
   ·rw [show ((unscv 4 (slc l kk)).length : Int) = 16 from by rw [unscv_len, lz]; rfl]
    exact h3
 exact H 0 (by omega)
theorem levelsback_ev (l : List Int) (hl : l.length ≤ 17592186043904) (a : Bool) (q : Int) (c d : Bool) : Ev (fun k => impl_LevelsBack.f k l a q c d) (lbN l q c d) := by
 have hbad : Ev (fun k => impl_LevelsBack.j0 k l true a q c d) ([], false) := Ev.step (f := fun _ => some ([], false)) (fun k => by simp only [impl_LevelsBack.j0]; rfl) (Ev.now _)
 unfold impl_LevelsBack.f lbN
 have hA : Ev (fun k => impl_areLevels.f k l) (decide ((l.length : Int) = 64) && allB (-5000) 5000 l) := by
  unfold impl_areLevels.f
  exact Ev.bind (areIn_ev l 64 (-5000) 5000 hl) (Ev.now _)
 refine Ev.bind hA ?_
 rw [len_dec4 l 64 64 rfl]
 by_cases h0 : l.length = 64 ∧ allB (-5000) 5000 l = true
 ·rw [decide_eq_true h0.1, h0.2]
  simp only [Bool.and_self, if_true, cond_val, Option.bind_some]
  cases hc : condB q c d with
  | false =>
   rw [if_neg (fun h => by cases h.2)]
   exact hbad
  | true =>
   rw [if_pos ⟨⟨h0.1, trivial⟩, rfl⟩]
   have hq := condB_in hc
   have hs := unscanned_ev 8 l
   rw [if_pos (show ScOk 8 l from Or.inr ⟨rfl, h0.1⟩)] at hs
   cases d with
   | true =>
    refine Ev.step (fun k => by simp only [impl_LevelsBack.j0, Bool.and_self, Bool.not_true, Bool.false_eq_true, if_false, if_true]; rfl) (Ev.bind hs ?_)
    simp only [if_true]; exact Ev.now _
   | false =>
    cases c with
    | true =>
     have hu : (unscv 8 l).length = 64 := by rw [unscv_len, h0.1]
     refine Ev.step (fun k => by simp only [impl_LevelsBack.j0, Bool.and_self, Bool.not_true, Bool.false_eq_true, if_false, if_true]; rfl) (Ev.bind hs ?_)
     rw [show ((unscv 8 l).length : Int) = 64 from by rw [hu]; rfl]
     exact back_large _ hu a q hq true false
    | false =>
     have g : (64 : Nat) ≤ 35184372088832 := by omega
     refine Ev.step (fun k => by simp only [impl_LevelsBack.j0, Bool.and_self, Bool.not_true, Bool.false_eq_true, if_false, g, if_true]) (back_rounds l h0.1 a q hq false false)
 ·rw [and_false4 h0, if_neg (fun h => h0 h.1)]
  simp only [Bool.false_eq_true, if_false]
  exact hbad
/-- What is kept of a number is off by half a step at most. -/
theorem large_near {w q : Int} (hw : -19998 ≤ w ∧ w ≤ 19998) (hq : 0 ≤ q ∧ q ≤ 40) :
  (-5000 ≤ largeN w q ∧ largeN w q ≤ 5000) ∧ -stepN q ≤ 2 * (largeN w q * stepN q - w) ∧ 2 * (largeN w q * stepN q - w) ≤ stepN q := by
 have hs := stepN_in hq
 have ha := absN_in (w := w) (by omega)
 have hQ := large_steps ha hs
 have haw : absN w = if w < 0 then -w else w := rfl
 unfold largeN
 rw [if_pos ⟨by omega, hq⟩]
 have e1 : largeQ (absN w) (stepN q) * stepN q ≤ absN w + stepN q / 2 := Int.ediv_mul_le _ (by omega)
 have e2 : absN w + stepN q / 2 < largeQ (absN w) (stepN q) * stepN q + stepN q := by
  have := Int.lt_ediv_add_one_mul_self (absN w + stepN q / 2) (show 0 < stepN q by omega)
  rw [Int.add_mul, Int.one_mul] at this
  exact this
 have e3 : largeQ (absN w) (stepN q) * 10 ≤ largeQ (absN w) (stepN q) * stepN q := Int.mul_le_mul_of_nonneg_left hs.1 hQ.2.1
 unfold sgnN
 generalize stepN q = s at *
 generalize absN w = a at *
 generalize largeQ a s = z at *
 by_cases c : w < 0
 ·rw [if_pos c] at haw ⊢
  rw [Int.neg_mul]
  generalize z * s = m at *
  omega
 ·rw [if_neg c] at haw ⊢
  generalize z * s = m at *
  omega
theorem back4 (f : Nat → Int) : unscv 4 (scanv 4 ((List.range 16).map f)) = (List.range 16).map f := by kernel_rfl
theorem back8 (f : Nat → Int) : unscv 8 (scanv 8 ((List.range 64).map f)) = (List.range 64).map f := by kernel_rfl
theorem list_map (l : List Int) (n : Nat) (h : l.length = n) : l = (List.range n).map (fun i : Nat => rd l (i : Int)) := by
 apply List.ext_getElem
 ·simp [h]
 ·intro i h1 h2
  rw [List.getElem_map, List.getElem_range, rd_nat l i h1]
theorem back_ev {side : Int} {l : List Int} (h : SideN side l.length) : unscv side (scanv side l) = l := by
 rcases h with ⟨rfl, e⟩ | ⟨rfl, e⟩
 ·rw [list_map l 16 e, back4]
 ·rw [list_map l 64 e, back8]
theorem scanv_mem {side : Int} {l : List Int} (h : SideN side l.length) {x : Int} (hx : x ∈ scanv side l) : x ∈ l := by
 obtain ⟨p, hp, rfl⟩ := List.mem_map.1 hx
 obtain ⟨h0, h1⟩ := ord_in h p hp
 have e : p = ((p.toNat : Nat) : Int) := by omega
 rw [e, rd_nat l p.toNat (by omega)]
 exact List.getElem_mem _
theorem sm_congr {f g : Nat → Int} {n : Nat} (h : ∀ k, k < n → f k = g k) : sm f n = sm g n := by
 induction n with
 | zero => rfl
 | succ n ih => simp only [sm]; rw [ih (fun k hk => h k (by omega)), h n (by omega)]
theorem sm_mul (c : Int) (f : Nat → Int) (n : Nat) : c * sm f n = sm (fun k => c * f k) n := by
 induction n with
 | zero => simp [sm]
 | succ n ih => simp only [sm]; rw [Int.mul_add, ih]
theorem sm_add (f g : Nat → Int) (n : Nat) : sm f n + sm g n = sm (fun k => f k + g k) n := by
 induction n with
 | zero => rfl
 | succ n ih => simp only [sm]; rw [← ih]; omega
theorem sm_zero (n : Nat) : sm (fun _ => 0) n = 0 := by
 induction n with
 | zero => rfl
 | succ n ih => simp only [sm]; rw [ih]; rfl
theorem sm_swap (F : Nat → Nat → Int) (n m : Nat) : sm (fun i => sm (fun j => F i j) m) n = sm (fun j => sm (fun i => F i j) n) m := by
 induction n with
 | zero => simp only [sm]; rw [sm_zero]
 | succ n ih => simp only [sm]; rw [ih, sm_add]
theorem sg_fin : ∀ u k : Fin 8, sm (fun v => sg u.val v * sg v k.val) 8 = if u.val = k.val then 8 else 0 := by decide +kernel
theorem sm_delta (f : Nat → Int) (u n : Nat) : sm (fun k => f k * (if u = k then 8 else 0)) n = if u < n then 8 * f u else 0 := by
 induction n with
 | zero => rfl
 | succ n ih =>
  simp only [sm]
  rw [ih]
  by_cases c : u = n
  ·subst c
   rw [if_neg (by omega), if_pos rfl, if_pos (by omega)]
   omega
  ·rw [if_neg c]
   by_cases d : u < n
   ·rw [if_pos d, if_pos (by omega)]; omega
   ·rw [if_neg d, if_neg (by omega)]; omega
/-- One turn of eight numbers. -/
def tr (f : Nat → Int) (v : Nat) : Int := sm (fun k => sg v k * f k) 8
theorem tr_congr {f g : Nat → Int} (h : ∀ k, k < 8 → f k = g k) (v : Nat) : tr f v = tr g v := sm_congr fun k hk => by rw [h k hk]
theorem tr_tr (f : Nat → Int) (u : Nat) (hu : u < 8) : tr (tr f) u = 8 * f u := by
 have e1 : tr (tr f) u = sm (fun v => sm (fun k => sg u v * (sg v k * f k)) 8) 8 := sm_congr fun v _ => by unfold tr; rw [sm_mul]
 rw [e1, sm_swap]
 have e2 : sm (fun k => sm (fun v => sg u v * (sg v k * f k)) 8) 8 = sm (fun k => f k * (if u = k then 8 else 0)) 8 := by
  refine sm_congr fun k hk => ?_
  have h := sg_fin ⟨u, hu⟩ ⟨k, hk⟩
  simp only at h
  rw [← h, sm_mul]
  refine sm_congr fun v _ => ?_
  rw [← Int.mul_assoc, Int.mul_comm]
 rw [e2, sm_delta, if_pos hu]
def rowT (X : Nat → Nat → Int) (r v : Nat) : Int := tr (X r) v
def colT (X : Nat → Nat → Int) (u v : Nat) : Int := tr (fun j => X j v) u
theorem col_row (X : Nat → Nat → Int) (u v : Nat) : colT (rowT X) u v = rowT (colT X) u v := by
 unfold colT rowT tr
 have e1 : sm (fun j => sg u j * sm (fun k => sg v k * X j k) 8) 8 = sm (fun j => sm (fun k => sg u j * (sg v k * X j k)) 8) 8 := sm_congr fun j _ => sm_mul _ _ _
 have e2 : sm (fun k => sg v k * sm (fun j => sg u j * X j k) 8) 8 = sm (fun k => sm (fun j => sg v k * (sg u j * X j k)) 8) 8 := sm_congr fun k _ => sm_mul _ _ _
 rw [e1, e2, sm_swap]
 refine sm_congr fun k _ => sm_congr fun j _ => ?_
 rw [← Int.mul_assoc, ← Int.mul_assoc, Int.mul_comm (sg u j)]
theorem turn_turn (X : Nat → Nat → Int) (u v : Nat) (hu : u < 8) (hv : v < 8) : colT (rowT (colT (rowT X))) u v = 64 * X u v := by
 have e1 : colT (rowT (colT (rowT X))) u v = colT (colT (rowT (rowT X))) u v := tr_congr (fun j _ => (col_row (rowT X) j v).symm) u
 rw [e1]
 show tr (tr (fun j => rowT (rowT X) j v)) u = _
 rw [tr_tr _ u hu]
 show 8 * tr (tr (X u)) v = _
 rw [tr_tr _ v hv]
 omega
/-- The numbers of a list as 8 rows of 8. -/
def gr (x : List Int) (r c : Nat) : Int := rd x ((8 * r + c : Nat) : Int)
theorem half_gr (x : List Int) (r v : Nat) (hr : r < 8) (hv : v < 8) : gr (halfv x) r v = rowT (gr x) r v := by
 unfold gr
 rw [rd_nat (halfv x) (8 * r + v) (by rw [halfv_len]; omega), halfv_get]
 unfold rowT tr halfAt
 rw [show (8 * r + v) % 8 = v by omega, show (8 * r + v) / 8 = r by omega]
theorem sums2_gr (x : List Int) (u v : Nat) (hu : u < 8) (hv : v < 8) : gr (sums2 x) u v = colT (gr x) u v := by
 unfold gr
 rw [rd_nat (sums2 x) (8 * u + v) (by rw [sums2_len]; omega), sums2_get]
 unfold colT tr outAt
 rw [show (8 * u + v) % 8 = v by omega, show (8 * u + v) / 8 = u by omega]
theorem sumsv_gr (x : List Int) (u v : Nat) (hu : u < 8) (hv : v < 8) : gr (sumsv x) u v = colT (rowT (gr x)) u v := by
 unfold sumsv
 rw [sums2_gr _ u v hu hv]
 exact tr_congr (fun j hj => half_gr x j v hj hv) u
theorem sumsv_twice (x : List Int) (hx : x.length = 64) : sumsv (sumsv x) = x.map fun v => 64 * v := by
 apply List.ext_getElem
 ·rw [sumsv_len, List.length_map, hx]
 ·intro i h1 h2
  rw [sumsv_len] at h1
  have e := sumsv_gr (sumsv x) (i / 8) (i % 8) (by omega) (by omega)
  have e2 : colT (rowT (gr (sumsv x))) (i / 8) (i % 8) = colT (rowT (colT (rowT (gr x)))) (i / 8) (i % 8) :=
   tr_congr (fun j hj => tr_congr (fun k hk => sumsv_gr x j k hj hk) _) _
  rw [e2, turn_turn _ _ _ (by omega) (by omega)] at e
  unfold gr at e
  rw [show 8 * (i / 8) + i % 8 = i by omega, rd_nat _ i (by rw [sumsv_len]; omega), rd_nat x i (by omega)] at e
  rw [e, List.getElem_map]
theorem tr_add (f g : Nat → Int) (v : Nat) : tr (fun k => f k + g k) v = tr f v + tr g v := by
 unfold tr
 rw [sm_add]
 exact sm_congr fun k _ => Int.mul_add _ _ _
theorem tr_bound {B : Int} (f : Nat → Int) (h : ∀ k, k < 8 → -B ≤ f k ∧ f k ≤ B) (v : Nat) : -(8 * B) ≤ tr f v ∧ tr f v ≤ 8 * B :=
 sm_bound (fun k => sg v k * f k) B 8 (fun k hk => sgmul_bound v k (h k hk))
/-- What is off by h at each place is off by 64 h behind a turn of eight. -/
theorem turn_off (V W : List Int) (h : Int) (hd : ∀ u v, u < 8 → v < 8 → -h ≤ gr V u v - gr W u v ∧ gr V u v - gr W u v ≤ h) (u v : Nat) (hu : u < 8) (hv : v < 8) :
  -(64 * h) ≤ gr (sumsv V) u v - gr (sumsv W) u v ∧ gr (sumsv V) u v - gr (sumsv W) u v ≤ 64 * h := by
 rw [sumsv_gr V u v hu hv, sumsv_gr W u v hu hv]
 have e1 : colT (rowT (gr V)) u v = tr (fun j => tr (gr W j) v + tr (fun k => gr V j k - gr W j k) v) u := by
  refine tr_congr (fun j _ => ?_) u
  show tr (gr V j) v = _
  rw [← tr_add]
  exact tr_congr (fun k _ => by omega) v
 have e2 : colT (rowT (gr W)) u v = tr (fun j => tr (gr W j) v) u := rfl
 have b := tr_bound (B := 8 * h) (fun j => tr (fun k => gr V j k - gr W j k) v) (fun j hj => tr_bound (fun k => gr V j k - gr W j k) (fun k hk => hd j k hj hk) v) u
 rw [e1, e2, tr_add]
 omega
theorem near_at {w q : Int} (hw : -16320 ≤ w ∧ w ≤ 16320) (hq : 0 ≤ q ∧ q ≤ 40) :
  (-(stepN q / 2) ≤ largeB (largeN w q) q - w ∧ largeB (largeN w q) q - w ≤ stepN q / 2) ∧ -20000 ≤ largeB (largeN w q) q ∧ largeB (largeN w q) q ≤ 20000 := by
 have hs := stepN_in hq
 obtain ⟨h0, h1, h2⟩ := large_near (w := w) (by omega) hq
 have e : largeB (largeN w q) q = largeN w q * stepN q := by
  unfold largeB
  rw [if_pos h0]
  generalize largeN w q * stepN q = m at h1 h2 ⊢
  exact wrap_id (by omega) (by omega)
 rw [e]
 generalize largeN w q * stepN q = m at h1 h2 ⊢
 omega
/-- What comes back of a list of large levels. -/
def leftV (x : List Int) (q : Int) : List Int := (sumsv x).map (fun w => largeB (largeN w q) q)
theorem left_near (x : List Int) (hx : x.length = 64) (hb : allB (-255) 255 x = true) {q : Int} (hq : 0 ≤ q ∧ q ≤ 40) :
  EbOk (leftV x q) ∧ ∀ i : Nat, i < 64 → -stepN q ≤ 2 * (rd (settledL (sumsv (leftV x q))) (i : Int) - rd x (i : Int)) ∧ 2 * (rd (settledL (sumsv (leftV x q))) (i : Int) - rd x (i : Int)) ≤ stepN q := by
 have hs := stepN_in hq
 have hwl := sumsv_len x
 have hwa := allB_iff.1 (sumsv_all hx hb)
 have hvl : (leftV x q).length = 64 := by unfold leftV; rw [List.length_map, hwl]
 have hvg : ∀ i : Nat, (h : i < 64) → rd (leftV x q) (i : Int) = largeB (largeN (rd (sumsv x) (i : Int)) q) q := by
  intro i h
  rw [rd_nat _ i (by omega), rd_nat (sumsv x) i (by omega)]
  unfold leftV
  rw [List.getElem_map]
 have hwi : ∀ i : Nat, i < 64 → -16320 ≤ rd (sumsv x) (i : Int) ∧ rd (sumsv x) (i : Int) ≤ 16320 := by
  intro i h
  rw [rd_nat (sumsv x) i (by omega)]
  have := hwa _ (List.getElem_mem (l := sumsv x) (n := i) (by omega))
  omega
 refine ⟨⟨hvl, allB_iff.2 fun v hv => ?_⟩, fun i hi => ?_⟩
 ·obtain ⟨w, hw, rfl⟩ := List.mem_map.1 hv
  have h1 := hwa w hw
  have h2 := (near_at (w := w) (by omega) hq).2
  omega
 ·have off := turn_off (leftV x q) (sumsv x) (stepN q / 2) (fun u v hu hv => by
   unfold gr
   rw [hvg (8 * u + v) (by omega)]
   exact (near_at (hwi (8 * u + v) (by omega)) hq).1) (i / 8) (i % 8) (by omega) (by omega)
  have t : gr (sumsv (sumsv x)) (i / 8) (i % 8) = 64 * rd x (i : Int) := by
   unfold gr
   rw [show 8 * (i / 8) + i % 8 = i by omega, sumsv_twice x hx, rd_nat _ i (by rw [List.length_map]; omega), List.getElem_map, rd_nat x i (by omega)]
  have s : rd (settledL (sumsv (leftV x q))) (i : Int) = down64 (gr (sumsv (leftV x q)) (i / 8) (i % 8)) := by
   have hl := sumsv_len (leftV x q)
   unfold gr settledL
   rw [show 8 * (i / 8) + i % 8 = i by omega, rd_nat _ i (by rw [List.length_map]; omega), List.getElem_map, rd_nat _ i (by omega)]
  rw [t] at off
  rw [s]
  unfold down64
  generalize gr (sumsv (leftV x q)) (i / 8) (i % 8) = m at off ⊢
  generalize rd x (i : Int) = y at off ⊢
  omega
theorem cond_of {q : Int} (hq : 0 ≤ q ∧ q ≤ 40) {c d : Bool} (h : (c && d) = false) : condB q c d = true := by
 unfold condB
 rw [decide_eq_true hq, h]
 rfl
theorem left_exact (x : List Int) (hx : x.length = 64) (hb : allB (-255) 255 x = true) {q : Int} (hq : 0 ≤ q ∧ q ≤ 40) :
  levN x q false true = (scanv 8 x, true) ∧ (scanv 8 x).length = 64 ∧ lbN (scanv 8 x) q false true = (x, true) := by
 have hsn : SideN 8 x.length := .inr ⟨rfl, hx⟩
 have hl := scanv_len hsn x
 have ha : allB (-5000) 5000 (scanv 8 x) = true := allB_iff.2 fun v hv => by
  have := allB_iff.1 hb v (scanv_mem hsn hv)
  omega
 refine ⟨?_, by omega, ?_⟩
 ·unfold levN
  rw [if_pos ⟨⟨hx, hb⟩, cond_of hq rfl⟩, if_pos rfl]
 ·unfold lbN
  rw [if_pos ⟨⟨by omega, ha⟩, cond_of hq rfl⟩, if_pos rfl, back_ev hsn]
theorem left_large (x : List Int) (hx : x.length = 64) (hb : allB (-255) 255 x = true) {q : Int} (hq : 0 ≤ q ∧ q ≤ 40) :
  ∃ l y : List Int, levN x q true false = (l, true) ∧ l.length = 64 ∧ lbN l q true false = (y, true) ∧ y.length = 64 ∧ ∀ i : Nat, i < 64 → -stepN q ≤ 2 * (rd y (i : Int) - rd x (i : Int)) ∧ 2 * (rd y (i : Int) - rd x (i : Int)) ≤ stepN q := by
 obtain ⟨hV, hn⟩ := left_near x hx hb hq
 have hwl := sumsv_len x
 have hwa := allB_iff.1 (sumsv_all hx hb)
 obtain ⟨m, hm⟩ : ∃ m, m = (sumsv x).map (largeN · q) := ⟨_, rfl⟩
 have lm : m.length = 64 := by rw [hm, List.length_map, hwl]
 have hsn : SideN 8 m.length := .inr ⟨rfl, lm⟩
 have hl := scanv_len hsn m
 have ha : allB (-5000) 5000 (scanv 8 m) = true := allB_iff.2 fun v hv => by
  have hv' := scanv_mem hsn hv
  rw [hm] at hv'
  obtain ⟨w, hw, rfl⟩ := List.mem_map.1 hv'
  have h1 := hwa w hw
  exact (large_near (w := w) (by omega) hq).1
 refine ⟨scanv 8 m, settledL (sumsv (leftV x q)), ?_, by omega, ?_, by rw [settledL_len, sumsv_len], hn⟩
 ·unfold levN
  rw [if_pos ⟨⟨hx, hb⟩, cond_of hq rfl⟩, if_neg (by decide), if_pos rfl, hm]
 ·unfold lbN
  rw [if_pos ⟨⟨by omega, ha⟩, cond_of hq rfl⟩, if_neg (by decide), if_pos rfl, back_ev hsn]
  have e : m.map (largeB · q) = leftV x q := by rw [hm, List.map_map]; rfl
  rw [e]
  unfold ebv
  rw [if_pos hV]
theorem and_le (x : Int) (m : Nat) (hm : m < 9223372036854775808) : 0 ≤ Go.bits .and .i64 x (m : Int) ∧ Go.bits .and .i64 x (m : Int) ≤ (m : Int) := by
 have h : (BitVec.ofInt 64 x &&& BitVec.ofInt 64 (m : Int)).toNat ≤ m := by
  rw [BitVec.toNat_and]
  refine Nat.le_trans Nat.and_le_right ?_
  rw [BitVec.ofInt_natCast, BitVec.toNat_ofNat]
  exact Nat.mod_le _ _
 have e : Go.bits .and .i64 x (m : Int) = IntKind.i64.wrap (((BitVec.ofInt 64 x &&& BitVec.ofInt 64 (m : Int)).toNat : Nat) : Int) := rfl
 rw [e, IntKind.wrap_i64]
 omega
theorem byte_at (b : List Int) (hb : b.length ≤ 140737488351232) (i h : Int) (h0 : 0 ≤ i) (h1 : i ≤ (b.length : Int)) :
  ∃ x i' h', spec_l01Byte.f b i h = some (x, i', h') ∧ 0 ≤ x ∧ x ≤ 255 ∧ 0 ≤ i' ∧ i' ≤ (b.length : Int) := by
 unfold spec_l01Byte.f
 by_cases c : i < (b.length : Int)
 ·rw [if_pos c, if_pos h0]
  exact ⟨_, _, _, rfl, (and_le _ 255 (by decide)).1, (and_le _ 255 (by decide)).2, by rw [wrap_id (by omega) (by omega)]; omega, by rw [wrap_id (by omega) (by omega)]; omega⟩
 ·rw [if_neg c]
  exact ⟨_, _, _, rfl, (and_le _ 255 (by decide)).1, (and_le _ 255 (by decide)).2, h0, h1⟩
theorem below_at (b : List Int) (hb : b.length ≤ 140737488351232) (i h n : Int) (h0 : 0 ≤ i) (h1 : i ≤ (b.length : Int)) (hn : 0 < n) :
  ∃ x i' h', spec_l01Below.f b i h n = some (x, i', h') ∧ 0 ≤ x ∧ x < n ∧ 0 ≤ i' ∧ i' ≤ (b.length : Int) := by
 unfold spec_l01Below.f
 rw [if_neg (by omega)]
 obtain ⟨x, i1, s1, e1, x0, x1, p1, q1⟩ := byte_at b hb i h h0 h1
 by_cases c : n ≤ 256
 ·rw [if_pos c, e1, Option.bind_some, if_neg (by omega)]
  exact ⟨_, _, _, rfl, by simp only [Int.tmod_eq_emod_of_nonneg x0]; exact Int.emod_nonneg _ (by omega), by simp only [Int.tmod_eq_emod_of_nonneg x0]; exact Int.emod_lt_of_pos _ hn, p1, q1⟩
 ·obtain ⟨y, i2, s2, e2, y0, y1, p2, q2⟩ := byte_at b hb i1 s1 p1 q1
  obtain ⟨z, i3, s3, e3, z0, z1, p3, q3⟩ := byte_at b hb i2 s2 p2 q2
  obtain ⟨w, i4, s4, e4, w0, w1, p4, q4⟩ := byte_at b hb i3 s3 p3 q3
  rw [if_neg c, e1, Option.bind_some]
  simp only []
  rw [e2, Option.bind_some]
  simp only []
  rw [e3, Option.bind_some]
  simp only []
  rw [e4, Option.bind_some, if_neg (by omega)]
  have hs : wrap64 (wrap64 (wrap64 (wrap64 (x * 16777216) + wrap64 (y * 65536)) + wrap64 (z * 256)) + w) = x * 16777216 + y * 65536 + z * 256 + w := by
   rw [wrap_id (x := x * 16777216) (by omega) (by omega), wrap_id (x := y * 65536) (by omega) (by omega), wrap_id (x := z * 256) (by omega) (by omega), wrap_id (x := x * 16777216 + y * 65536) (by omega) (by omega), wrap_id (x := x * 16777216 + y * 65536 + z * 256) (by omega) (by omega), wrap_id (by omega) (by omega)]
  refine ⟨_, _, _, rfl, ?_, ?_, p4, q4⟩
  ·simp only [hs]; rw [Int.tmod_eq_emod_of_nonneg (by omega)]; exact Int.emod_nonneg _ (by omega)
  ·simp only [hs]; rw [Int.tmod_eq_emod_of_nonneg (by omega)]; exact Int.emod_lt_of_pos _ hn
theorem new_loop (l : List Int) (hl : l.length ≤ 140737488351232) (d : Nat) : ∀ h i : Int, 0 ≤ i → (l.length : Int) - i = d → ∃ h', Ev (fun k => spec_l01New.l0 k l h i) (l, 0, h') := by
 induction d with
 | zero =>
  intro h i h0 hd
  exact ⟨h, Ev.step (f := fun _ => some (l, 0, h)) (fun k => by simp only [spec_l01New.l0]; rw [if_neg (by omega)]) (Ev.now _)⟩
 | succ d ih =>
  intro h i h0 hd
  by_cases c : i < 4000
  ·obtain ⟨h', e⟩ := ih (Go.bits .and .i64 (wrap64 ((wrap64 ((wrap64 (h * 131)) + (wrap64 (rd l i)))) + 7)) 1073741823) (i + 1) (by omega) (by omega)
   refine ⟨h', Ev.step (fun k => ?_) e⟩
   simp only [spec_l01New.l0]
   rw [if_pos (by omega), if_pos c, if_pos h0, wrap_id (x := i + 1) (by omega) (by omega)]
  ·exact ⟨h, Ev.step (f := fun _ => some (l, 0, h)) (fun k => by simp only [spec_l01New.l0]; rw [if_pos (by omega), if_neg c]) (Ev.now _)⟩
theorem new_ev (l : List Int) (hl : l.length ≤ 140737488351232) : ∃ h, Ev (fun k => spec_l01New.f k l) (l, 0, h) := by
 obtain ⟨h, e⟩ := new_loop l hl l.length (wrap64 (94701 + (l.length : Int))) 0 (by omega) (by omega)
 exact ⟨h, e⟩
theorem once_at (b : List Int) (hb : b.length ≤ 140737488351232) (i h n : Int) (h0 : 0 ≤ i) (h1 : i ≤ (b.length : Int)) (hn : 0 < n) :
  ∃ x i' h', spec_l01Once.f b i h n = some (x, i', h') ∧ 0 ≤ i' ∧ i' ≤ (b.length : Int) := by
 obtain ⟨x, i', h', e, _, _, p, q⟩ := below_at b hb i h n h0 h1 hn
 exact ⟨_, _, _, by unfold spec_l01Once.f; rw [e]; rfl, p, q⟩
/-- What a right picture is. -/
def PicR (w h : Int) (d : ByteArray) : Prop := (1 ≤ w ∧ w ≤ 256) ∧ (1 ≤ h ∧ h ≤ 256) ∧ (d.size : Int) = w * h
instance (w h : Int) (d : ByteArray) : Decidable (PicR w h d) := by unfold PicR; infer_instance
theorem brought_ev (n lo hi : Int) : Ev (fun k => spec_Brought.f k n lo hi) (mx lo (mn n hi)) := by
 unfold spec_Brought.f
 unfold mx mn
 by_cases c : hi < lo
 ·refine Ev.congr (fun k => by rw [if_pos c]) (Ev.step (f := fun _ => some lo) (fun k => by simp only [spec_Brought.j0]; rfl) ?_)
  have e : (if lo < (if hi < n then hi else n) then (if hi < n then hi else n) else lo) = lo := by repeat' split <;> omega
  rw [e]; exact Ev.now _
 ·by_cases c2 : n < lo
  ·refine Ev.congr (fun k => by rw [if_neg c, show decide (n < lo) = true from decide_eq_true c2]) (Ev.step (f := fun _ => some lo) (fun k => by simp only [spec_Brought.j0]; rfl) ?_)
   have e : (if lo < (if hi < n then hi else n) then (if hi < n then hi else n) else lo) = lo := by repeat' split <;> omega
   rw [e]; exact Ev.now _
  ·refine Ev.congr (fun k => by rw [if_neg c, show decide (n < lo) = false from decide_eq_false c2]) (Ev.step (f := fun _ => if n > hi then some hi else some n) (fun k => by simp only [spec_Brought.j0]; rfl) ?_)
   by_cases c3 : n > hi
   ·have e : (if lo < (if hi < n then hi else n) then (if hi < n then hi else n) else lo) = hi := by repeat' split <;> omega
    rw [e]; simp only [c3, if_true]; exact Ev.now _
   ·have e : (if lo < (if hi < n then hi else n) then (if hi < n then hi else n) else lo) = n := by repeat' split <;> omega
    rw [e]; simp only [c3, if_false]; exact Ev.now _
theorem diffs_loop (b : List Int) (hb : b.length ≤ 140737488351232) (n m : Int) (hn : n ≤ 1000000) (hm : 1 ≤ m ∧ m ≤ 100000) (d : Nat) : ∀ (out : List Int) (i p h : Int), 0 ≤ i → n - i = (d : Int) → (out.length : Int) = i → (∀ y ∈ out, -m ≤ y ∧ y ≤ m) → 0 ≤ p → p ≤ (b.length : Int) →
  ∃ r, Ev (fun k => spec_DrawDiffs.l0 k n m out i b p h) r ∧ (r.length : Int) = n ∧ ∀ y ∈ r, -m ≤ y ∧ y ≤ m := by
 induction d with
 | zero =>
  intro out i p h hi hd ho hx h0 h1
  exact ⟨out, Ev.step (f := fun _ => some out) (fun k => by simp only [spec_DrawDiffs.l0]; rw [if_neg (by omega)]) (Ev.now _), by omega, hx⟩
 | succ d ih =>
  intro out i p h hi hd ho hx h0 h1
  obtain ⟨z, p1, h1', e1, a0, a1⟩ := once_at b hb p h 3 h0 h1 (by omega)
  have g : out.length < 17592186044416 := by omega
  have ei : wrap64 (i + 1) = i + 1 := wrap_id (by omega) (by omega)
  have em : wrap64 (wrap64 (2 * m) + 1) = 2 * m + 1 := by rw [wrap_id (x := 2 * m) (by omega) (by omega), wrap_id (by omega) (by omega)]
  have en : wrap64 (-m) = -m := wrap_id (by omega) (by omega)
  cases z with
  | true =>
   obtain ⟨y, p2, h2', e2, y0, y1, b0, b1⟩ := below_at b hb p1 h1' (2 * m + 1) a0 a1 (by clear ei em en; omega)
   have ey : wrap64 (y - m) = y - m := by clear ei em en; exact wrap_id (by omega) (by omega)
   obtain ⟨r, er, hr⟩ := ih (out ++ [y - m]) (i + 1) p2 h2' (by clear ei em en ey; omega) (by clear ei em en ey; omega) (by clear ei em en ey; rw [List.length_append]; simp; omega) (by
    clear ei em en ey
    intro w hw
    rcases List.mem_append.1 hw with hw | hw
    ·exact hx w hw
    ·simp at hw; omega) b0 b1
   refine ⟨r, Ev.step (fun k => ?_) er, hr⟩
   simp only [spec_DrawDiffs.l0]
   rw [if_pos (by clear ei em en ey; omega), e1, Option.bind_some, if_pos rfl, em, e2, Option.bind_some, if_pos g, ey, ei]
  | false =>
   obtain ⟨y, p2, h2', e2, y0, y1, b0, b1⟩ := below_at b hb p1 h1' 21 a0 a1 (by omega)
   have ey : wrap64 (y - 10) = y - 10 := by clear ei em en; exact wrap_id (by omega) (by omega)
   have hbr := brought_ev (y - 10) (-m) m
   have hv : -m ≤ mx (-m) (mn (y - 10) m) ∧ mx (-m) (mn (y - 10) m) ≤ m := by
    clear ei em en ey
    unfold mx mn
    repeat' split
    all_goals omega
   generalize mx (-m) (mn (y - 10) m) = v at hbr hv
   obtain ⟨r, er, hr⟩ := ih (out ++ [v]) (i + 1) p2 h2' (by clear ei em en ey; omega) (by clear ei em en ey; omega) (by clear ei em en ey; rw [List.length_append]; simp; omega) (by
    clear ei em en ey
    intro w hw
    rcases List.mem_append.1 hw with hw | hw
    ·exact hx w hw
    ·simp at hw; omega) b0 b1
   refine ⟨r, Ev.step (f := fun k => (spec_Brought.f k (y - 10) (-m) m).bind fun t => if out.length < 17592186044416 then spec_DrawDiffs.l0 k n m (out ++ [t]) (i + 1) b p2 h2' else none) (fun k => ?_) (Ev.bind hbr ?_), hr⟩
   ·simp only [spec_DrawDiffs.l0]
    rw [if_pos (by clear ei em en ey; omega), e1, Option.bind_some, if_neg (by simp), e2, Option.bind_some, ey, en, ei]
   ·simp only [g, if_true]
    exact er
theorem drawdiffs_ev (l : List Int) (hl : l.length ≤ 140737488351232) (n : Nat) (m : Int) (hn : n ≤ 1000000) (hm : 1 ≤ m ∧ m ≤ 100000) : ∃ r, Ev (fun k => spec_DrawDiffs.f k l (n : Int) m) r ∧ r.length = n ∧ ∀ y ∈ r, -m ≤ y ∧ y ≤ m := by
 obtain ⟨h, e⟩ := new_ev l hl
 obtain ⟨r, er, hr, hx⟩ := diffs_loop l hl (n : Int) m (by omega) hm n [] 0 0 h (by omega) (by omega) rfl (by simp) (by omega) (by omega)
 refine ⟨r, ?_, by omega, hx⟩
 unfold spec_DrawDiffs.f
 exact Ev.bind e er
theorem par_at (b : List Int) (hb : b.length ≤ 140737488351232) (p h : Int) (h0 : 0 ≤ p) (h1 : p ≤ (b.length : Int)) :
  ∃ q l e z p' h', spec_l05ParRight.f b p h = some (q, l, e, z, p', h') ∧ condB q l e = true ∧ 0 ≤ p' ∧ p' ≤ (b.length : Int) := by
 obtain ⟨x, p1, h1', e1, x0, x1, a0, a1⟩ := below_at b hb p h 41 h0 h1 (by omega)
 obtain ⟨y, p2, h2', e2, b0, b1⟩ := once_at b hb p1 h1' 4 a0 a1 (by omega)
 obtain ⟨z, p3, h3', e3, z0, z1, c0, c1⟩ := below_at b hb p2 h2' 3 b0 b1 (by omega)
 have hc : ∀ l e : Bool, (l && e) = false → condB x l e = true := by
  intro l e h
  unfold condB
  rw [decide_eq_true (by omega), h]
  rfl
 unfold spec_l05ParRight.f
 simp only [e1, e2, e3, Option.bind_some]
 by_cases d0 : z = 0
 ·simp only [d0, if_true]; exact ⟨_, _, _, _, _, _, rfl, hc _ _ rfl, c0, c1⟩
 ·by_cases d1 : z = 1
  ·simp only [d1, if_true]; exact ⟨_, _, _, _, _, _, rfl, hc _ _ rfl, c0, c1⟩
  ·simp only [d0, d1, if_false]; exact ⟨_, _, _, _, _, _, rfl, hc _ _ rfl, c0, c1⟩
theorem cond_at (b : List Int) (hb : b.length ≤ 140737488351232) (p h : Int) (h0 : 0 ≤ p) (h1 : p ≤ (b.length : Int)) :
  ∃ a q l e p' h', spec_l14Cond.f b p h = some (a, q, l, e, p', h') ∧ condB q l e = true ∧ 0 ≤ p' ∧ p' ≤ (b.length : Int) := by
 obtain ⟨q, l, e, z, p1, h1', e1, hc, a0, a1⟩ := par_at b hb p h h0 h1
 obtain ⟨y, p2, h2', e2, b0, b1⟩ := once_at b hb p1 h1' 2 a0 a1 (by omega)
 unfold spec_l14Cond.f
 simp only [e1, e2, Option.bind_some]
 exact ⟨_, _, _, _, _, _, rfl, hc, b0, b1⟩
theorem drawcond_ev (l : List Int) (hl : l.length ≤ 140737488351232) : ∃ a q d e, Ev (fun k => spec_DrawCond.f k l) (a, q, d, e) ∧ condB q d e = true := by
 obtain ⟨h, en⟩ := new_ev l hl
 obtain ⟨a, q, d, e, p', h', ec, hc, _, _⟩ := cond_at l hl 0 h (by omega) (by omega)
 refine ⟨a, q, d, e, ?_, hc⟩
 unfold spec_DrawCond.f
 refine Ev.bind en ?_
 simp only [ec, Option.bind_some]
 exact Ev.now _
theorem same_ev (a b : List Int) (ha : a.length ≤ 17592186043904) : Ev (fun k => laws_sameInts.f k a b) (decide (a = b)) := by
 by_cases hl : a.length = b.length
 ·have H : ∀ i, i ≤ a.length → Ev (fun k => laws_sameInts.l0 k a b (i : Int)) (decide (a.drop i = b.drop i)) := by
   refine down a.length ?_ ?_
   ·refine Ev.step (f := fun _ => some true) (fun k => ?_) ?_
    ·simp only [laws_sameInts.l0]
     rw [if_neg (by omega)]
    ·rw [show decide (a.drop a.length = b.drop a.length) = true by rw [hl]; simp [← hl]]; exact Ev.now _
   ·intro i hi h
    have hb : i < b.length := by omega
    by_cases c : a[i] = b[i]
    ·have e : decide (a.drop i = b.drop i) = decide (a.drop (i + 1) = b.drop (i + 1)) := by
      rw [decide_eq_decide, drop_cons hi, drop_cons hb, c, List.cons.injEq]; simp only [true_and]
     rw [e]
     refine Ev.step (fun k => ?_) h
     simp only [laws_sameInts.l0]
     rw [if_pos (by omega), if_pos (by omega), if_pos (by omega), rd_nat a i hi, rd_nat b i hb, if_pos c, wrap_id (by omega) (by omega), cast1]
    ·have e : decide (a.drop i = b.drop i) = false := by
      rw [decide_eq_false_iff_not, drop_cons hi, drop_cons hb, List.cons.injEq]; exact fun h => c h.1
     rw [e]
     refine Ev.step (f := fun _ => some false) (fun k => ?_) (Ev.now _)
     simp only [laws_sameInts.l0]
     rw [if_pos (by omega), if_pos (by omega), if_pos (by omega), rd_nat a i hi, rd_nat b i hb, if_neg c]
  have h0 := H 0 (by omega)
  unfold laws_sameInts.f
  refine Ev.congr (fun k => ?_) h0
  rw [if_pos (by omega)]; rfl
 ·unfold laws_sameInts.f
  rw [show decide (a = b) = false from decide_eq_false (fun h => hl (by rw [h]))]
  refine Ev.congr (f := fun _ => some false) (fun k => ?_) (Ev.now _)
  rw [if_neg (by omega)]
theorem sameSelf_ev (a : List Int) (ha : a.length ≤ 17592186043904) : Ev (fun k => laws_sameInts.f k a a) true := by
 have h := same_ev a a ha
 rwa [decide_eq_true rfl] at h
theorem left_loop (x y : List Int) (hx : x.length = 64) (hy : y.length = 64) (hxb : ∀ v ∈ x, -255 ≤ v ∧ v ≤ 255) (a : Bool) {q : Int} (hq : 0 ≤ q ∧ q ≤ 40) (c d : Bool)
  (hn : ∀ i : Nat, i < 64 → -stepN q ≤ 2 * (rd y (i : Int) - rd x (i : Int)) ∧ 2 * (rd y (i : Int) - rd x (i : Int)) ≤ stepN q) : Ev (fun k => laws_FnExactLeft.l0 k x y 0 a q c d) true := by
 have hs := stepN_in hq
 have H : ∀ i : Nat, i ≤ 64 → Ev (fun k => laws_FnExactLeft.l0 k x y (i : Int) a q c d) true := by
  refine down 64 ?_ ?_
  ·refine Ev.step (f := fun _ => some true) (fun k => ?_) (Ev.now _)
   simp only [laws_FnExactLeft.l0, step_val, Option.bind_some]
   rw [if_neg (by omega), decide_eq_true (by omega)]
  ·intro i hi h
   have h1 := hn i hi
   rw [rd_nat x i (by omega), rd_nat y i (by omega)] at h1
   refine Ev.step (fun k => ?_) h
   simp only [laws_FnExactLeft.l0, step_val, Option.bind_some]
   rw [if_pos (by omega), if_pos (by omega), if_pos (by omega), if_pos (by omega), rd_nat x i (by omega), rd_nat y i (by omega)]
   generalize stepN q = s at h1 hs ⊢
   generalize y[i]'(by omega) - x[i]'(by omega) = d at h1 ⊢
   have e1 : wrap64 ((i : Int) + 1) = ((i + 1 : Nat) : Int) := by rw [wrap_id (by omega) (by omega)]; omega
   rw [e1, wrap_id (x := d) (by omega) (by omega), wrap_id (x := -d) (by omega) (by omega), wrap_id (x := 2 * d) (by omega) (by omega), wrap_id (x := 2 * -d) (by omega) (by omega)]
   by_cases c : d < 0
   ·rw [if_pos c, if_neg (by omega)]
   ·rw [if_neg c, if_neg (by omega)]
 exact H 0 (by omega)
theorem FnExactLeft : laws_FnExactLeft.Pure := by
 intro l _ hl _
 refine Ev.rounds ?_
 unfold laws_FnExactLeft.f laws_big.f
 simp only [Option.bind_some]
 by_cases c : (l.length : Int) > 1048576
 ·simp only [c, decide_true, if_true]; exact Ev.now _
 ·simp only [c, decide_false, Bool.false_eq_true, if_false]
  obtain ⟨x, ex, hx, hb⟩ := drawdiffs_ev l (by omega) 64 255 (by omega) (by omega)
  obtain ⟨a, q, large, ext, ec, hc⟩ := drawcond_ev l (by omega)
  have hq := condB_in hc
  have hxb : allB (-255) 255 x = true := allB_iff.2 hb
  obtain ⟨e1, n1, e2⟩ := left_exact x hx hxb hq
  obtain ⟨L, y, e3, n3, e4, n4, hn⟩ := left_large x hx hxb hq
  have f1 := levelsof_ev x (by omega) a q false true
  rw [e1] at f1
  have f2 := levelsback_ev (scanv 8 x) (by omega) a q false true
  rw [e2] at f2
  have f3 := levelsof_ev x (by omega) a q true false
  rw [e3] at f3
  have f4 := levelsback_ev L (by omega) a q true false
  rw [e4] at f4
  have eS := sameSelf_ev x (by omega)
  have g1 : ([] : List Int).length + x.length < 17592186044416 := by simp; omega
  have g2 : ([] : List Int).length + (scanv 8 x).length < 17592186044416 := by simp; omega
  have g3 : ([] : List Int).length + L.length < 17592186044416 := by simp; omega
  have g4 : ((y.length : Nat) : Int) = 64 := by omega
  have ex' : Ev (fun k => spec_DrawDiffs.f k l 64 255) x := ex
  refine Ev.bind ex' (Ev.bind ec ?_)
  simp only [Option.bind_some, g1, if_true, List.nil_append]
  refine Ev.bind f1 ?_
  simp only [g2, if_true, List.nil_append]
  refine Ev.bind f2 ?_
  simp only [if_true]
  refine Ev.bind eS ?_
  refine Ev.step (f := fun k => (impl_LevelsOf.f k x a q true false).bind fun bt => (if ([] : List Int).length + bt.1.length < 17592186044416 then ((impl_LevelsBack.f k bt.1 a q true false).bind fun bt2 => (if bt.2 = true then (if bt2.2 = true then (laws_FnExactLeft.j1 k x bt2.1 ((bt2.1.length : Int) != 64) a q true false) else (laws_FnExactLeft.j1 k x bt2.1 true a q true false)) else (laws_FnExactLeft.j1 k x bt2.1 true a q true false))) else none)) (fun k => ?_) (Ev.bind f3 ?_)
  ·simp only [laws_FnExactLeft.j0, Bool.not_true, Bool.false_eq_true, if_false, Option.bind_some, g1, if_true, List.nil_append]
  ·simp only [g3, if_true]
   refine Ev.bind f4 ?_
   simp only [g4, if_true, bne_self_eq_false]
   refine Ev.step (f := fun k => laws_FnExactLeft.l0 k x y 0 a q true false) (fun k => ?_) (left_loop x y hx n4 hb a hq true false hn)
   simp only [laws_FnExactLeft.j1, Bool.false_eq_true, if_false]
end Go.Proofs.Ytlmlkoalicjlhaa.Pure