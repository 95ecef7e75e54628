/- For all codes: dots joined with their difference to other dots are these others, and joined with nothing they are what they were. The only condition is the row's own bound of the code's length. -/
import Derived.Test.YtokaccgaendhmaaQFnJoinedx3
namespace Go.Proofs.Ytokaccgaendhmaa.Pure
open Go.RowKit Go.Proofs.Ytokaccgaendhmaa.QFnJoined Go.Proofs.YtokaccgaendhmaaW.PrintWords Go.Proofs.YtokaccgaendhmaaW.PrintLast Go.Proofs.YtokaccgaendhmaaW.PrintMore
set_option linter.unusedVariables false
set_option linter.unusedSimpArgs false

theorem wrap_id {x : Int} (h0 : -9223372036854775808 ≤ x) (h1 : x ≤ 9223372036854775807) : wrap64 x = x := by
  unfold wrap64
  omega
theorem wf64 {n : Int} (h : (Lit.int .i64 n).wf = true) : -9223372036854775808 ≤ n ∧ n ≤ 9223372036854775807 := by
  simp [Lit.wf, IntKind.min, IntKind.max, IntKind.signed, IntKind.bits] at h
  omega
theorem wfu8 {n : Int} (h : (Lit.int .u8 n).wf = true) : 0 ≤ n ∧ n ≤ 255 := by
  simp [Lit.wf, IntKind.min, IntKind.max, IntKind.signed, IntKind.bits] at h
  omega
theorem within_eq (a b c : Int) : impl_within.f a b c = some (decide (b ≤ a ∧ a ≤ c)) := by
  unfold impl_within.f
  by_cases h : a ≥ b
  · rw [if_pos h]; congr 1; rw [decide_eq_decide]; omega
  · rw [if_neg h]; congr 1; symm; rw [decide_eq_false_iff_not]; omega

theorem and_le (x : Int) (m : Nat) (hm : m < 9223372036854775808) : 0 ≤ Go.bits .and .i64 x (m : Int) ∧ Go.bits .and .i64 x (m : Int) ≤ (m : Int) := by
  have h : (BitVec.ofInt 64 x &&& BitVec.ofInt 64 (m : Int)).toNat ≤ m := by
    rw [BitVec.toNat_and]
    refine Nat.le_trans Nat.and_le_right ?_
    rw [BitVec.ofInt_natCast, BitVec.toNat_ofNat]
    exact Nat.mod_le _ _
  have e : Go.bits .and .i64 x (m : Int) = IntKind.i64.wrap (((BitVec.ofInt 64 x &&& BitVec.ofInt 64 (m : Int)).toNat : Nat) : Int) := rfl
  rw [e, IntKind.wrap_i64]
  omega

theorem rounds_ev {α : Type} {g : Nat → Option α} {r : α} (h : Ev g r) : ∃ k, g k = some r := h.rounds
theorem byte_at (b : List Int) (hb : b.length ≤ 140737488351232) (i h : Int) (h0 : 0 ≤ i) (h1 : i ≤ (b.length : Int)) :
    ∃ x i' h', spec_l01Byte.f b i h = some (x, i', h') ∧ 0 ≤ x ∧ x ≤ 255 ∧ 0 ≤ i' ∧ i' ≤ (b.length : Int) := by
  unfold spec_l01Byte.f
  by_cases c : i < (b.length : Int)
  · rw [if_pos c, if_pos h0]
    exact ⟨_, _, _, rfl, (and_le _ 255 (by decide)).1, (and_le _ 255 (by decide)).2, by rw [wrap_id (by omega) (by omega)]; omega, by rw [wrap_id (by omega) (by omega)]; omega⟩
  · rw [if_neg c]
    exact ⟨_, _, _, rfl, (and_le _ 255 (by decide)).1, (and_le _ 255 (by decide)).2, h0, h1⟩
theorem below_at (b : List Int) (hb : b.length ≤ 140737488351232) (i h n : Int) (h0 : 0 ≤ i) (h1 : i ≤ (b.length : Int)) (hn : 0 < n) :
    ∃ x i' h', spec_l01Below.f b i h n = some (x, i', h') ∧ 0 ≤ x ∧ x < n ∧ 0 ≤ i' ∧ i' ≤ (b.length : Int) := by
  unfold spec_l01Below.f
  rw [if_neg (by omega)]
  obtain ⟨x, i1, s1, e1, x0, x1, p1, q1⟩ := byte_at b hb i h h0 h1
  by_cases c : n ≤ 256
  · rw [if_pos c, e1, Option.bind_some, if_neg (by omega)]
    exact ⟨_, _, _, rfl, by simp only [Int.tmod_eq_emod_of_nonneg x0]; exact Int.emod_nonneg _ (by omega), by simp only [Int.tmod_eq_emod_of_nonneg x0]; exact Int.emod_lt_of_pos _ hn, p1, q1⟩
  · obtain ⟨y, i2, s2, e2, y0, y1, p2, q2⟩ := byte_at b hb i1 s1 p1 q1
    obtain ⟨z, i3, s3, e3, z0, z1, p3, q3⟩ := byte_at b hb i2 s2 p2 q2
    obtain ⟨w, i4, s4, e4, w0, w1, p4, q4⟩ := byte_at b hb i3 s3 p3 q3
    rw [if_neg c, e1, Option.bind_some]
    simp only []
    rw [e2, Option.bind_some]
    simp only []
    rw [e3, Option.bind_some]
    simp only []
    rw [e4, Option.bind_some, if_neg (by omega)]
    have hs : wrap64 (wrap64 (wrap64 (wrap64 (x * 16777216) + wrap64 (y * 65536)) + wrap64 (z * 256)) + w) = x * 16777216 + y * 65536 + z * 256 + w := by
      rw [wrap_id (x := x * 16777216) (by omega) (by omega), wrap_id (x := y * 65536) (by omega) (by omega), wrap_id (x := z * 256) (by omega) (by omega), wrap_id (x := x * 16777216 + y * 65536) (by omega) (by omega), wrap_id (x := x * 16777216 + y * 65536 + z * 256) (by omega) (by omega), wrap_id (by omega) (by omega)]
    refine ⟨_, _, _, rfl, ?_, ?_, p4, q4⟩
    · simp only [hs]; rw [Int.tmod_eq_emod_of_nonneg (by omega)]; exact Int.emod_nonneg _ (by omega)
    · simp only [hs]; rw [Int.tmod_eq_emod_of_nonneg (by omega)]; exact Int.emod_lt_of_pos _ hn
theorem below_any (b : List Int) (hb : b.length ≤ 140737488351232) (i h n : Int) (h0 : 0 ≤ i) (h1 : i ≤ (b.length : Int)) :
    ∃ x i' h', spec_l01Below.f b i h n = some (x, i', h') ∧ 0 ≤ x ∧ (0 < n → x < n) ∧ 0 ≤ i' ∧ i' ≤ (b.length : Int) := by
  by_cases hn : 0 < n
  · obtain ⟨x, i', h', e, x0, x1, p, q⟩ := below_at b hb i h n h0 h1 hn
    exact ⟨x, i', h', e, x0, fun _ => x1, p, q⟩
  · exact ⟨0, i, h, by unfold spec_l01Below.f; rw [if_pos (by omega)], by omega, fun h => absurd h hn, h0, h1⟩
theorem new_loop (l : List Int) (hl : l.length ≤ 140737488351232) (d : Nat) : ∀ h i : Int, 0 ≤ i → (l.length : Int) - i = d → ∃ h', Ev (fun k => spec_l01New.l0 k l h i) (l, 0, h') := by
  induction d with
  | zero =>
    intro h i h0 hd
    exact ⟨h, Ev.step (f := fun _ => some (l, 0, h)) (fun k => by simp only [spec_l01New.l0]; rw [if_neg (by omega)]) (Ev.now _)⟩
  | succ d ih =>
    intro h i h0 hd
    by_cases c : i < 4000
    · obtain ⟨h', e⟩ := ih (Go.bits .and .i64 (wrap64 ((wrap64 ((wrap64 (h * 131)) + (wrap64 (rd l i)))) + 7)) 1073741823) (i + 1) (by omega) (by omega)
      refine ⟨h', Ev.step (fun k => ?_) e⟩
      simp only [spec_l01New.l0]
      rw [if_pos (by omega), if_pos c, if_pos h0, wrap_id (x := i + 1) (by omega) (by omega)]
    · exact ⟨h, Ev.step (f := fun _ => some (l, 0, h)) (fun k => by simp only [spec_l01New.l0]; rw [if_pos (by omega), if_neg c]) (Ev.now _)⟩
theorem new_ev (l : List Int) (hl : l.length ≤ 140737488351232) : ∃ h, Ev (fun k => spec_l01New.f k l) (l, 0, h) := by
  obtain ⟨h, e⟩ := new_loop l hl l.length (wrap64 (94701 + (l.length : Int))) 0 (by omega) (by omega)
  exact ⟨h, e⟩

theorem down {P : Nat → Prop} (n : Nat) (h0 : P n) (hs : ∀ i, i < n → P (i + 1) → P i) : ∀ i, i ≤ n → P i := by
  intro i hi
  obtain ⟨d, hd⟩ : ∃ d, d = n - i := ⟨_, rfl⟩
  induction d generalizing i with
  | zero => have : i = n := by omega
            subst this; exact h0
  | succ d ih => exact hs i (by omega) (ih (i + 1) (by omega) (by omega))
theorem rd_nat (l : List Int) (i : Nat) (h : i < l.length) : rd l (i : Int) = l[i] := by
  unfold rd
  rw [List.getD_eq_getElem?_getD, Int.toNat_natCast, List.getElem?_eq_getElem h]; rfl
theorem cast1 (i : Nat) : ((i : Nat) : Int) + 1 = ((i + 1 : Nat) : Int) := rfl
theorem mix_set {α : Type} (l z : List α) (i : Nat) (hi : i < l.length) (hz : i < z.length) : (l.take i ++ z.drop i).set i l[i] = l.take (i + 1) ++ z.drop (i + 1) := by
  rw [List.set_append_right _ _ (by simp; omega)]
  rw [show i - (l.take i).length = 0 by simp; omega]
  rw [List.drop_eq_getElem_cons hz, List.set_cons_zero, List.take_succ_eq_append_getElem hi, List.append_assoc]; rfl
theorem mix_length {α : Type} (l z : List α) (i : Nat) (h : l.length = z.length) (hi : i ≤ l.length) : (l.take i ++ z.drop i).length = l.length := by
  simp; omega
theorem mix_end {α : Type} (l z : List α) (h : l.length = z.length) : l.take l.length ++ z.drop l.length = l := by
  rw [List.take_length, h, List.drop_length, List.append_nil]
theorem mix_zero {α : Type} (l z : List α) : l.take 0 ++ z.drop 0 = z := by simp
theorem drop_cons {α : Type} {l : List α} {i : Nat} (h : i < l.length) : l.drop i = l[i] :: l.drop (i + 1) := List.drop_eq_getElem_cons h
/-- All numbers of a list are from lo to hi. -/
def allB (lo hi : Int) (l : List Int) : Bool := l.all fun x => decide (lo ≤ x ∧ x ≤ hi)
theorem allB_cons (lo hi x : Int) (l : List Int) : allB lo hi (x :: l) = (decide (lo ≤ x ∧ x ≤ hi) && allB lo hi l) := rfl
theorem allB_iff {lo hi : Int} {l : List Int} : allB lo hi l = true ↔ ∀ x ∈ l, lo ≤ x ∧ x ≤ hi := by
  unfold allB
  rw [List.all_eq_true]
  simp only [decide_eq_true_eq]
theorem areIn_ev (l : List Int) (n lo hi : Int) (hl : l.length ≤ 17592186043904) : Ev (fun k => impl_areIn.f k l n lo hi) (decide ((l.length : Int) = n) && allB lo hi l) := by
  have H : ∀ i, i ≤ l.length → Ev (fun k => impl_areIn.l0 k l n lo hi l (l.length : Int) (i : Int)) (decide ((l.length : Int) = n) && allB lo hi (l.drop i)) := by
    refine down l.length ?_ ?_
    · refine Ev.step (f := fun _ => some (decide ((l.length : Int) = n))) (fun k => ?_) ?_
      · simp only [impl_areIn.l0]
        rw [if_neg (by omega)]; congr 1
      · rw [List.drop_length]; simp only [allB, List.all_nil, Bool.and_true]; exact Ev.now _
    · intro i h1 h
      rw [drop_cons h1, allB_cons]
      by_cases c : lo ≤ l[i] ∧ l[i] ≤ hi
      · rw [decide_eq_true c, Bool.true_and]
        refine Ev.step (fun k => ?_) h
        simp only [impl_areIn.l0]
        rw [if_pos (by omega), if_pos (by omega), if_pos (by omega), rd_nat l i h1, within_eq, Option.bind_some, if_pos (decide_eq_true c), wrap_id (by omega) (by omega), cast1]
      · rw [decide_eq_false c, Bool.false_and, Bool.and_false]
        refine Ev.step (f := fun _ => some false) (fun k => ?_) (Ev.now _)
        simp only [impl_areIn.l0]
        rw [if_pos (by omega), if_pos (by omega), if_pos (by omega), rd_nat l i h1, within_eq, Option.bind_some, if_neg (by simpa using c)]
  exact H 0 (by omega)

theorem snoc_all {P : Int → Prop} {l : List Int} {x : Int} (h : ∀ y ∈ l, P y) (hx : P x) : ∀ y ∈ l ++ [x], P y := by
  intro y hy
  rcases List.mem_append.1 hy with hy | hy
  · exact h y hy
  · simp at hy; subst hy; exact hx
theorem mod256 (x : Int) : 0 ≤ x % 256 ∧ x % 256 ≤ 255 := by omega
theorem dots_loop (b : List Int) (hb : b.length ≤ 140737488351232) (n : Nat) (hn : n ≤ 1000000) (d : Nat) : ∀ (out : List Int) (x i p h : Int), 0 ≤ i → (n : Int) - i = (d : Int) → (out.length : Int) = i → (∀ y ∈ out, 0 ≤ y ∧ y ≤ 255) → 0 ≤ p → p ≤ (b.length : Int) →
    ∃ r p' h', Ev (fun k => spec_l12Dots.l0 k (n : Int) out x i b p h) (strOfNums r, p', h') ∧ r.length = n ∧ (∀ y ∈ r, 0 ≤ y ∧ y ≤ 255) ∧ 0 ≤ p' ∧ p' ≤ (b.length : Int) := by
  induction d with
  | zero =>
    intro out x i p h hi hd ho hx h0 h1
    exact ⟨out, p, h, Ev.step (f := fun _ => some (strOfNums out, p, h)) (fun k => by simp only [spec_l12Dots.l0]; rw [if_neg (by omega)]) (Ev.now _), by omega, hx, h0, h1⟩
  | succ d ih =>
    intro out x i p h hi hd ho hx h0 h1
    obtain ⟨y, p1, h1', e1, y0, y1, q0, q1⟩ := below_at b hb p h 6 h0 h1 (by omega)
    by_cases c0 : y = 0
    · obtain ⟨z, p2, h2', e2, z0, z1, s0, s1⟩ := byte_at b hb p1 h1' q0 q1
      obtain ⟨r, p', h', er, hr⟩ := ih (out ++ [z % 256]) z (i + 1) p2 h2' (by omega) (by omega) (by simp; omega) (snoc_all hx (mod256 _)) s0 s1
      refine ⟨r, p', h', Ev.step (fun k => ?_) er, hr⟩
      simp only [spec_l12Dots.l0]
      rw [if_pos (by omega), e1, Option.bind_some, if_pos c0, e2, Option.bind_some, if_pos (by omega), wrap_id (x := i + 1) (by omega) (by omega)]
    · by_cases c1 : y = 1
      · obtain ⟨z, p2, h2', e2, z0, z1, s0, s1⟩ := below_at b hb p1 h1' 9 q0 q1 (by omega)
        obtain ⟨r, p', h', er, hr⟩ := ih (out ++ [(Go.bits .and .i64 (wrap64 ((wrap64 (x + z)) + 252)) 255) % 256]) (Go.bits .and .i64 (wrap64 ((wrap64 (x + z)) + 252)) 255) (i + 1) p2 h2' (by omega) (by omega) (by simp; omega) (snoc_all hx (mod256 _)) s0 s1
        refine ⟨r, p', h', Ev.step (fun k => ?_) er, hr⟩
        simp only [spec_l12Dots.l0]
        rw [if_pos (by omega), e1, Option.bind_some, if_neg c0, if_pos c1, e2, Option.bind_some, if_pos (by omega), wrap_id (x := i + 1) (by omega) (by omega)]
      · obtain ⟨r, p', h', er, hr⟩ := ih (out ++ [x % 256]) x (i + 1) p1 h1' (by omega) (by omega) (by simp; omega) (snoc_all hx (mod256 _)) q0 q1
        refine ⟨r, p', h', Ev.step (fun k => ?_) er, hr⟩
        simp only [spec_l12Dots.l0]
        rw [if_pos (by omega), e1, Option.bind_some, if_neg c0, if_neg c1, if_pos (by omega), wrap_id (x := i + 1) (by omega) (by omega)]
theorem dots_ev (b : List Int) (hb : b.length ≤ 140737488351232) (p h : Int) (n : Nat) (hn : n ≤ 1000000) (h0 : 0 ≤ p) (h1 : p ≤ (b.length : Int)) :
    ∃ r p' h', Ev (fun k => spec_l12Dots.f k b p h (n : Int)) (strOfNums r, p', h') ∧ r.length = n ∧ (∀ y ∈ r, 0 ≤ y ∧ y ≤ 255) ∧ 0 ≤ p' ∧ p' ≤ (b.length : Int) := by
  obtain ⟨x, p1, h1', e1, x0, x1, q0, q1⟩ := byte_at b hb p h h0 h1
  obtain ⟨r, p', h', er, hr⟩ := dots_loop b hb n hn n [] x 0 p1 h1' (by omega) (by omega) rfl (by simp) q0 q1
  refine ⟨r, p', h', ?_, hr⟩
  unfold spec_l12Dots.f
  simp only [e1, Option.bind_some]
  exact er
theorem bytes_get (s : ByteArray) (i : Nat) (h : i < (bytesOf s).length) : (bytesOf s)[i] = bt s (i : Int) := by
  rw [← rd_bytesOf, rd_nat _ i h]
theorem ints_ev (s : ByteArray) (hs : s.size ≤ 1000000) : Ev (fun k => spec_l13Ints.f k s) (bytesOf s) := by
  have hl := bytesOf_length s
  have H : ∀ i, i ≤ s.size → Ev (fun k => spec_l13Ints.l0 k s ((bytesOf s).take i) (i : Int)) (bytesOf s) := by
    refine down s.size ?_ ?_
    · refine Ev.step (f := fun _ => some (bytesOf s)) (fun k => ?_) (Ev.now _)
      simp only [spec_l13Ints.l0]
      rw [if_neg (by omega), List.take_of_length_le (by omega)]
    · intro i hi h
      refine Ev.step (fun k => ?_) h
      have hr := bt_range s i
      simp only [spec_l13Ints.l0]
      rw [if_pos (by omega), if_pos (by omega), if_pos (by simp; omega), wrap_id (x := bt s (i : Int)) (by omega) (by omega), ← bytes_get s i (by omega), ← List.take_succ_eq_append_getElem (by omega), wrap_id (by omega) (by omega), cast1]
  exact H 0 (by omega)
theorem bytes_in (s : ByteArray) : ∀ x ∈ bytesOf s, 0 ≤ x ∧ x ≤ 255 := by
  intro x hx
  obtain ⟨i, hi, rfl⟩ := List.mem_iff_getElem.1 hx
  rw [bytes_get]
  exact bt_range _ _
theorem want_ev (l : List Int) (hl : l.length ≤ 140737488351232) : ∃ w, Ev (fun k => spec_DrawWant.f k l) w ∧ w.length = 64 ∧ ∀ x ∈ w, 0 ≤ x ∧ x ≤ 255 := by
  obtain ⟨h, e⟩ := new_ev l hl
  obtain ⟨r, p', h', er, hr, _⟩ := dots_ev l hl 0 h 64 (by omega) (by omega) (by omega)
  refine ⟨bytesOf (strOfNums r), ?_, by rw [bytesOf_length, strOfNums_size, hr], bytes_in _⟩
  unfold spec_DrawWant.f
  refine Ev.bind e (Ev.bind er (Ev.bind (ints_ev _ (by rw [strOfNums_size]; omega)) (Ev.now _)))

/-- Guess and difference, joined. -/
def joinv (g d : List Int) : List Int := List.zipWith (fun a b => mx 0 (mn (a + b) 255)) g d
def JOk (g d : List Int) : Prop := (g.length = 64 ∧ allB 0 255 g = true) ∧ (d.length = 64 ∧ allB (-10000000) 10000000 d = true)
instance (g d : List Int) : Decidable (JOk g d) := by unfold JOk; infer_instance
theorem joinv_len {g d : List Int} (h : JOk g d) : (joinv g d).length = 64 := by
  unfold joinv; rw [List.length_zipWith, h.1.1, h.2.1]; rfl
theorem joinv_get (g d : List Int) (i : Nat) (h : i < (joinv g d).length) (hg : i < g.length) (hd : i < d.length) : (joinv g d)[i] = mx 0 (mn (g[i] + d[i]) 255) := by
  simp only [joinv, List.getElem_zipWith]
theorem len_decj (l : List Int) (n : Nat) (m : Int) (h : m = (n : Int)) : decide ((l.length : Int) = m) = decide (l.length = n) := by rw [decide_eq_decide]; omega
theorem and_false' {a b : Bool} {p : Prop} [Decidable p] (ha : a = decide p) (h : ¬ (p ∧ b = true)) : (a && b) = false := by
  subst ha
  rw [Bool.eq_false_iff]; intro h'; rw [Bool.and_eq_true, decide_eq_true_eq] at h'; exact h h'
theorem join_loop (g d : List Int) (h : JOk g d) : ∀ i : Nat, i ≤ 64 → Ev (fun k => impl_Joined.l0 k d ((joinv g d).take i) g 64 (i : Int)) (joinv g d) := by
  have hj := joinv_len h
  obtain ⟨⟨hg, bg⟩, hd, bd⟩ := h
  refine down 64 ?_ ?_
  · refine Ev.step (f := fun _ => some (joinv g d)) (fun k => ?_) (Ev.now _)
    simp only [impl_Joined.l0]
    rw [if_neg (by omega), List.take_of_length_le (by omega)]
  · intro i hi hh
    refine Ev.step (fun k => ?_) hh
    have r1 := allB_iff.1 bg _ (List.getElem_mem (show i < g.length by omega))
    have r2 := allB_iff.1 bd _ (List.getElem_mem (show i < d.length by omega))
    have e := joinv_get g d i (by omega) (by omega) (by omega)
    simp only [impl_Joined.l0, impl_Brought.f, Option.bind_some]
    rw [if_pos (by omega), if_pos (by omega), if_pos (by omega), if_pos (by omega), if_pos (by simp; omega), rd_nat g i (by omega), rd_nat d i (by omega), wrap_id (x := g[i] + d[i]) (by omega) (by omega), ← e, ← List.take_succ_eq_append_getElem (by omega), wrap_id (x := (i : Int) + 1) (by omega) (by omega), cast1]
theorem joined_ev (g d : List Int) (hg : g.length ≤ 17592186043904) (hd : d.length ≤ 17592186043904) : Ev (fun k => impl_Joined.f k g d) (if JOk g d then joinv g d else []) := by
  unfold impl_Joined.f
  simp only [Option.bind_some]
  have hbad : Ev (fun k => impl_Joined.j0 k g d [] true) [] := Ev.step (f := fun _ => some []) (fun k => by simp only [impl_Joined.j0]; rfl) (Ev.now _)
  refine Ev.bind (areIn_ev g 64 0 255 hg) ?_
  rw [len_decj g 64 64 rfl]
  by_cases c1 : g.length = 64 ∧ allB 0 255 g = true
  · rw [decide_eq_true c1.1, c1.2]
    simp only [Bool.and_self, if_true]
    refine Ev.bind (areIn_ev d 64 (-10000000) 10000000 hd) ?_
    rw [len_decj d 64 64 rfl]
    by_cases c2 : d.length = 64 ∧ allB (-10000000) 10000000 d = true
    · rw [if_pos ⟨c1, c2⟩, decide_eq_true c2.1, c2.2]
      simp only [Bool.and_self, Bool.not_true]
      refine Ev.step (fun k => by simp only [impl_Joined.j0, Bool.false_eq_true, if_false]; rfl) ?_
      rw [c1.1]
      exact join_loop g d ⟨c1, c2⟩ 0 (by omega)
    · rw [if_neg (fun h => c2 h.2), and_false' rfl c2]
      simp only [Bool.not_false]; exact hbad
  · rw [if_neg (fun h => c1 h.1), and_false' rfl c1]
    simp only [Bool.false_eq_true, if_false]; exact hbad

theorem same_ev (a b : List Int) (ha : a.length ≤ 17592186043904) : Ev (fun k => laws_sameInts.f k a b) (decide (a = b)) := by
  by_cases hl : a.length = b.length
  · have H : ∀ i, i ≤ a.length → Ev (fun k => laws_sameInts.l0 k a b (i : Int)) (decide (a.drop i = b.drop i)) := by
      refine down a.length ?_ ?_
      · refine Ev.step (f := fun _ => some true) (fun k => ?_) ?_
        · simp only [laws_sameInts.l0]
          rw [if_neg (by omega)]
        · rw [show decide (a.drop a.length = b.drop a.length) = true by rw [hl]; simp [← hl]]; exact Ev.now _
      · intro i hi h
        have hb : i < b.length := by omega
        by_cases c : a[i] = b[i]
        · have e : decide (a.drop i = b.drop i) = decide (a.drop (i + 1) = b.drop (i + 1)) := by
            rw [decide_eq_decide, drop_cons hi, drop_cons hb, c, List.cons.injEq]; simp only [true_and]
          rw [e]
          refine Ev.step (fun k => ?_) h
          simp only [laws_sameInts.l0]
          rw [if_pos (by omega), if_pos (by omega), if_pos (by omega), rd_nat a i hi, rd_nat b i hb, if_pos c, wrap_id (by omega) (by omega), cast1]
        · have e : decide (a.drop i = b.drop i) = false := by
            rw [decide_eq_false_iff_not, drop_cons hi, drop_cons hb, List.cons.injEq]; exact fun h => c h.1
          rw [e]
          refine Ev.step (f := fun _ => some false) (fun k => ?_) (Ev.now _)
          simp only [laws_sameInts.l0]
          rw [if_pos (by omega), if_pos (by omega), if_pos (by omega), rd_nat a i hi, rd_nat b i hb, if_neg c]
    have h0 := H 0 (by omega)
    unfold laws_sameInts.f
    refine Ev.congr (fun k => ?_) h0
    rw [if_pos (by omega)]; rfl
  · unfold laws_sameInts.f
    rw [show decide (a = b) = false from decide_eq_false (fun h => hl (by rw [h]))]
    refine Ev.congr (f := fun _ => some false) (fun k => ?_) (Ev.now _)
    rw [if_neg (by omega)]
theorem sameSelf_ev (a : List Int) (ha : a.length ≤ 17592186043904) : Ev (fun k => laws_sameInts.f k a a) true := by
  have h := same_ev a a ha
  rwa [decide_eq_true rfl] at h

theorem diff_get (w g : List Int) (i : Nat) (h : i < (List.zipWith (fun a b => a - b) w g).length) (hw : i < w.length) (hg : i < g.length) : (List.zipWith (fun a b => a - b) w g)[i] = w[i] - g[i] := by
  rw [List.getElem_zipWith]
theorem joinlaw_loop (w g : List Int) (hw : w.length = 64) (hg : g.length = 64) (bw : ∀ x ∈ w, 0 ≤ x ∧ x ≤ 255) (bg : ∀ x ∈ g, 0 ≤ x ∧ x ≤ 255) :
    ∀ i : Nat, i ≤ 64 → Ev (fun k => laws_FnJoined.l0 k w g ((List.zipWith (fun a b => a - b) w g).take i) (i : Int)) true := by
  have hd : (List.zipWith (fun a b => a - b) w g).length = 64 := by rw [List.length_zipWith, hw, hg]; rfl
  have jok : JOk g (List.zipWith (fun a b => a - b) w g) := by
    refine ⟨⟨hg, allB_iff.2 bg⟩, hd, allB_iff.2 ?_⟩
    intro x hx
    obtain ⟨i, hi, rfl⟩ := List.mem_iff_getElem.1 hx
    have r1 := bw _ (List.getElem_mem (show i < w.length by omega))
    have r2 := bg _ (List.getElem_mem (show i < g.length by omega))
    rw [diff_get w g i hi (by omega) (by omega)]
    omega
  have jz : JOk g (List.replicate 64 0) := by
    refine ⟨⟨hg, allB_iff.2 bg⟩, by simp, allB_iff.2 ?_⟩
    intro x hx
    rw [List.eq_of_mem_replicate hx]; omega
  have e1 : joinv g (List.zipWith (fun a b => a - b) w g) = w := by
    apply List.ext_getElem
    · rw [joinv_len jok, hw]
    · intro i h1 h2
      have r1 := bw _ (List.getElem_mem (show i < w.length by omega))
      rw [joinv_get _ _ i h1 (by omega) (by omega), diff_get w g i (by omega) (by omega) (by omega)]
      unfold mx mn
      repeat' split <;> omega
  have e2 : joinv g (List.replicate 64 0) = g := by
    apply List.ext_getElem
    · rw [joinv_len jz, hg]
    · intro i h1 h2
      have r1 := bg _ (List.getElem_mem (show i < g.length by omega))
      rw [joinv_get _ _ i h1 (by omega) (by simp; omega), List.getElem_replicate]
      unfold mx mn
      repeat' split <;> omega
  refine down 64 ?_ ?_
  · have hJ := joined_ev g (List.zipWith (fun a b => a - b) w g) (by omega) (by omega)
    rw [if_pos jok, e1] at hJ
    have hZ := joined_ev g (List.replicate 64 0) (by omega) (by simp)
    rw [if_pos jz, e2] at hZ
    have hSw := sameSelf_ev w (by omega)
    have hSg := sameSelf_ev g (by omega)
    refine Ev.step (fun k => by simp only [laws_FnJoined.l0]; rw [if_neg (by omega), List.take_of_length_le (by omega)]) ?_
    have hl : ([] : List Int).length + g.length < 17592186044416 := by simp; omega
    simp only [Option.bind_some, hl, if_true, List.nil_append]
    refine Ev.bind hJ (Ev.bind hSw ?_)
    simp only [if_true, show (64 : Nat) ≤ 35184372088832 from by decide]
    exact Ev.bind hZ (Ev.bind hSg (Ev.now _))
  · intro i hi hh
    refine Ev.step (fun k => ?_) hh
    have r1 := bw _ (List.getElem_mem (show i < w.length by omega))
    have r2 := bg _ (List.getElem_mem (show i < g.length by omega))
    have e := diff_get w g i (by omega) (by omega) (by omega)
    simp only [laws_FnJoined.l0]
    rw [if_pos (by omega), if_pos (by omega), if_pos (by omega), if_pos (by omega), if_pos (by simp; omega), rd_nat w i (by omega), rd_nat g i (by omega), wrap_id (x := w[i] - g[i]) (by omega) (by omega), ← e, ← List.take_succ_eq_append_getElem (by omega), wrap_id (x := (i : Int) + 1) (by omega) (by omega), cast1]
theorem FnJoined : laws_FnJoined.Pure := by
  intro l _ hl _
  rw [Nat.mul_one] at hl
  refine Ev.rounds ?_
  unfold laws_FnJoined.f laws_big.f
  simp only [Option.bind_some]
  by_cases c : (l.length : Int) > 1048576
  · simp only [c, decide_true, if_true]; exact Ev.now _
  · simp only [c, decide_false, Bool.false_eq_true, if_false]
    obtain ⟨w, ew, lw, bw⟩ := want_ev l hl
    obtain ⟨g, eg, lg, bg⟩ := want_ev ([5] ++ l) (by simp; omega)
    have hlen : ([5] : List Int).length + l.length < 140737488355328 := by simp; omega
    simp only [hlen, if_true]
    exact Ev.bind ew (Ev.bind eg (joinlaw_loop w g lw lg bw bg 0 (by omega)))

end Go.Proofs.Ytokaccgaendhmaa.Pure
