/- For all codes: drawn lists come back from the order of the scan, in which each place comes once, and next ones are on the same diagonal or the one behind. The only condition is the row's own bound of the code's length. -/
import Derived.Test.YthinpmpjfhjbhaaQFnScansx4
namespace Go.Proofs.Ythinpmpjfhjbhaa.Pure
open Go.RowKit Go.Proofs.Ythinpmpjfhjbhaa.QFnScans Go.Proofs.YthinpmpjfhjbhaaW.PrintWords Go.Proofs.YthinpmpjfhjbhaaW.PrintLast Go.Proofs.YthinpmpjfhjbhaaW.PrintMore
set_option linter.unusedVariables false
set_option linter.unusedSimpArgs false

theorem wrap_id {x : Int} (h0 : -9223372036854775808 ≤ x) (h1 : x ≤ 9223372036854775807) : wrap64 x = x := by
  unfold wrap64
  omega
theorem wf64 {n : Int} (h : (Lit.int .i64 n).wf = true) : -9223372036854775808 ≤ n ∧ n ≤ 9223372036854775807 := by
  simp [Lit.wf, IntKind.min, IntKind.max, IntKind.signed, IntKind.bits] at h
  omega
theorem wfu8 {n : Int} (h : (Lit.int .u8 n).wf = true) : 0 ≤ n ∧ n ≤ 255 := by
  simp [Lit.wf, IntKind.min, IntKind.max, IntKind.signed, IntKind.bits] at h
  omega
theorem within_eq (a b c : Int) : impl_within.f a b c = some (decide (b ≤ a ∧ a ≤ c)) := by
  unfold impl_within.f
  by_cases h : a ≥ b
  · rw [if_pos h]; congr 1; rw [decide_eq_decide]; omega
  · rw [if_neg h]; congr 1; symm; rw [decide_eq_false_iff_not]; omega

theorem and_le (x : Int) (m : Nat) (hm : m < 9223372036854775808) : 0 ≤ Go.bits .and .i64 x (m : Int) ∧ Go.bits .and .i64 x (m : Int) ≤ (m : Int) := by
  have h : (BitVec.ofInt 64 x &&& BitVec.ofInt 64 (m : Int)).toNat ≤ m := by
    rw [BitVec.toNat_and]
    refine Nat.le_trans Nat.and_le_right ?_
    rw [BitVec.ofInt_natCast, BitVec.toNat_ofNat]
    exact Nat.mod_le _ _
  have e : Go.bits .and .i64 x (m : Int) = IntKind.i64.wrap (((BitVec.ofInt 64 x &&& BitVec.ofInt 64 (m : Int)).toNat : Nat) : Int) := rfl
  rw [e, IntKind.wrap_i64]
  omega

theorem rounds_ev {α : Type} {g : Nat → Option α} {r : α} (h : Ev g r) : ∃ k, g k = some r := h.rounds
theorem byte_at (b : List Int) (hb : b.length ≤ 140737488351232) (i h : Int) (h0 : 0 ≤ i) (h1 : i ≤ (b.length : Int)) :
    ∃ x i' h', spec_l01Byte.f b i h = some (x, i', h') ∧ 0 ≤ x ∧ x ≤ 255 ∧ 0 ≤ i' ∧ i' ≤ (b.length : Int) := by
  unfold spec_l01Byte.f
  by_cases c : i < (b.length : Int)
  · rw [if_pos c, if_pos h0]
    exact ⟨_, _, _, rfl, (and_le _ 255 (by decide)).1, (and_le _ 255 (by decide)).2, by rw [wrap_id (by omega) (by omega)]; omega, by rw [wrap_id (by omega) (by omega)]; omega⟩
  · rw [if_neg c]
    exact ⟨_, _, _, rfl, (and_le _ 255 (by decide)).1, (and_le _ 255 (by decide)).2, h0, h1⟩
theorem below_at (b : List Int) (hb : b.length ≤ 140737488351232) (i h n : Int) (h0 : 0 ≤ i) (h1 : i ≤ (b.length : Int)) (hn : 0 < n) :
    ∃ x i' h', spec_l01Below.f b i h n = some (x, i', h') ∧ 0 ≤ x ∧ x < n ∧ 0 ≤ i' ∧ i' ≤ (b.length : Int) := by
  unfold spec_l01Below.f
  rw [if_neg (by omega)]
  obtain ⟨x, i1, s1, e1, x0, x1, p1, q1⟩ := byte_at b hb i h h0 h1
  by_cases c : n ≤ 256
  · rw [if_pos c, e1, Option.bind_some, if_neg (by omega)]
    exact ⟨_, _, _, rfl, by simp only [Int.tmod_eq_emod_of_nonneg x0]; exact Int.emod_nonneg _ (by omega), by simp only [Int.tmod_eq_emod_of_nonneg x0]; exact Int.emod_lt_of_pos _ hn, p1, q1⟩
  · obtain ⟨y, i2, s2, e2, y0, y1, p2, q2⟩ := byte_at b hb i1 s1 p1 q1
    obtain ⟨z, i3, s3, e3, z0, z1, p3, q3⟩ := byte_at b hb i2 s2 p2 q2
    obtain ⟨w, i4, s4, e4, w0, w1, p4, q4⟩ := byte_at b hb i3 s3 p3 q3
    rw [if_neg c, e1, Option.bind_some]
    simp only []
    rw [e2, Option.bind_some]
    simp only []
    rw [e3, Option.bind_some]
    simp only []
    rw [e4, Option.bind_some, if_neg (by omega)]
    have hs : wrap64 (wrap64 (wrap64 (wrap64 (x * 16777216) + wrap64 (y * 65536)) + wrap64 (z * 256)) + w) = x * 16777216 + y * 65536 + z * 256 + w := by
      rw [wrap_id (x := x * 16777216) (by omega) (by omega), wrap_id (x := y * 65536) (by omega) (by omega), wrap_id (x := z * 256) (by omega) (by omega), wrap_id (x := x * 16777216 + y * 65536) (by omega) (by omega), wrap_id (x := x * 16777216 + y * 65536 + z * 256) (by omega) (by omega), wrap_id (by omega) (by omega)]
    refine ⟨_, _, _, rfl, ?_, ?_, p4, q4⟩
    · simp only [hs]; rw [Int.tmod_eq_emod_of_nonneg (by omega)]; exact Int.emod_nonneg _ (by omega)
    · simp only [hs]; rw [Int.tmod_eq_emod_of_nonneg (by omega)]; exact Int.emod_lt_of_pos _ hn
theorem below_any (b : List Int) (hb : b.length ≤ 140737488351232) (i h n : Int) (h0 : 0 ≤ i) (h1 : i ≤ (b.length : Int)) :
    ∃ x i' h', spec_l01Below.f b i h n = some (x, i', h') ∧ 0 ≤ x ∧ (0 < n → x < n) ∧ 0 ≤ i' ∧ i' ≤ (b.length : Int) := by
  by_cases hn : 0 < n
  · obtain ⟨x, i', h', e, x0, x1, p, q⟩ := below_at b hb i h n h0 h1 hn
    exact ⟨x, i', h', e, x0, fun _ => x1, p, q⟩
  · exact ⟨0, i, h, by unfold spec_l01Below.f; rw [if_pos (by omega)], by omega, fun h => absurd h hn, h0, h1⟩
theorem new_loop (l : List Int) (hl : l.length ≤ 140737488351232) (d : Nat) : ∀ h i : Int, 0 ≤ i → (l.length : Int) - i = d → ∃ h', Ev (fun k => spec_l01New.l0 k l h i) (l, 0, h') := by
  induction d with
  | zero =>
    intro h i h0 hd
    exact ⟨h, Ev.step (f := fun _ => some (l, 0, h)) (fun k => by simp only [spec_l01New.l0]; rw [if_neg (by omega)]) (Ev.now _)⟩
  | succ d ih =>
    intro h i h0 hd
    by_cases c : i < 4000
    · obtain ⟨h', e⟩ := ih (Go.bits .and .i64 (wrap64 ((wrap64 ((wrap64 (h * 131)) + (wrap64 (rd l i)))) + 7)) 1073741823) (i + 1) (by omega) (by omega)
      refine ⟨h', Ev.step (fun k => ?_) e⟩
      simp only [spec_l01New.l0]
      rw [if_pos (by omega), if_pos c, if_pos h0, wrap_id (x := i + 1) (by omega) (by omega)]
    · exact ⟨h, Ev.step (f := fun _ => some (l, 0, h)) (fun k => by simp only [spec_l01New.l0]; rw [if_pos (by omega), if_neg c]) (Ev.now _)⟩
theorem new_ev (l : List Int) (hl : l.length ≤ 140737488351232) : ∃ h, Ev (fun k => spec_l01New.f k l) (l, 0, h) := by
  obtain ⟨h, e⟩ := new_loop l hl l.length (wrap64 (94701 + (l.length : Int))) 0 (by omega) (by omega)
  exact ⟨h, e⟩
theorem rd_mem {l : List Int} {P : Int → Prop} (h : ∀ x ∈ l, P x) (i : Int) (h0 : 0 ≤ i) (h1 : i < (l.length : Int)) : P (rd l i) := by
  unfold rd
  rw [List.getD_eq_getElem?_getD, List.getElem?_eq_getElem (by omega)]
  exact h _ (List.getElem_mem _)
theorem places_loop (b : List Int) (hb : b.length ≤ 140737488351232) (d : Nat) : ∀ (out : List Int) (j i h : Int), 0 ≤ j → 12 - j = (d : Int) → (out.length : Int) = j → (∀ x ∈ out, 0 ≤ x ∧ x < 10000) → 0 ≤ i → i ≤ (b.length : Int) →
    ∃ p, Ev (fun k => spec_DrawPlaces.l0 k out j b i h) p ∧ p.length = 12 ∧ ∀ x ∈ p, 0 ≤ x ∧ x < 10000 := by
  induction d with
  | zero =>
    intro out j i h hj hd ho hx h0 h1
    exact ⟨out, Ev.step (f := fun _ => some out) (fun k => by simp only [spec_DrawPlaces.l0]; rw [if_neg (by omega)]) (Ev.now _), by omega, hx⟩
  | succ d ih =>
    intro out j i h hj hd ho hx h0 h1
    obtain ⟨x, i', h', e, x0, x1, p, q⟩ := below_at b hb i h 10000 h0 h1 (by omega)
    obtain ⟨r, er, hr⟩ := ih (out ++ [x]) (j + 1) i' h' (by omega) (by omega) (by simp; omega) (by
      intro y hy
      rcases List.mem_append.1 hy with hy | hy
      · exact hx y hy
      · simp at hy; subst hy; exact ⟨x0, x1⟩) p q
    refine ⟨r, Ev.step (fun k => ?_) er, hr⟩
    simp only [spec_DrawPlaces.l0]
    rw [if_pos (by omega), e, Option.bind_some, if_pos (by omega), wrap_id (x := j + 1) (by omega) (by omega)]
theorem places_ev (l : List Int) (hl : l.length ≤ 140737488351232) : ∃ p, Ev (fun k => spec_DrawPlaces.f k l) p ∧ p.length = 12 ∧ ∀ x ∈ p, 0 ≤ x ∧ x < 10000 := by
  obtain ⟨h, e⟩ := new_ev l hl
  obtain ⟨x, i', h', e1, x0, x1, p0, p1⟩ := byte_at l hl 0 h (by omega) (by omega)
  obtain ⟨p, ep, hp⟩ := places_loop l hl 12 [] 0 i' h' (by omega) (by omega) rfl (by simp) p0 p1
  refine ⟨p, ?_, hp⟩
  unfold spec_DrawPlaces.f
  refine Ev.bind e ?_
  simp only [e1, Option.bind_some]
  exact ep

theorem down {P : Nat → Prop} (n : Nat) (h0 : P n) (hs : ∀ i, i < n → P (i + 1) → P i) : ∀ i, i ≤ n → P i := by
  intro i hi
  obtain ⟨d, hd⟩ : ∃ d, d = n - i := ⟨_, rfl⟩
  induction d generalizing i with
  | zero => have : i = n := by omega
            subst this; exact h0
  | succ d ih => exact hs i (by omega) (ih (i + 1) (by omega) (by omega))
theorem rd_nat (l : List Int) (i : Nat) (h : i < l.length) : rd l (i : Int) = l[i] := by
  unfold rd
  rw [List.getD_eq_getElem?_getD, Int.toNat_natCast, List.getElem?_eq_getElem h]; rfl
theorem cast1 (i : Nat) : ((i : Nat) : Int) + 1 = ((i + 1 : Nat) : Int) := rfl
theorem mix_set {α : Type} (l z : List α) (i : Nat) (hi : i < l.length) (hz : i < z.length) : (l.take i ++ z.drop i).set i l[i] = l.take (i + 1) ++ z.drop (i + 1) := by
  rw [List.set_append_right _ _ (by simp; omega)]
  rw [show i - (l.take i).length = 0 by simp; omega]
  rw [List.drop_eq_getElem_cons hz, List.set_cons_zero, List.take_succ_eq_append_getElem hi, List.append_assoc]; rfl
theorem mix_length {α : Type} (l z : List α) (i : Nat) (h : l.length = z.length) (hi : i ≤ l.length) : (l.take i ++ z.drop i).length = l.length := by
  simp; omega
theorem mix_end {α : Type} (l z : List α) (h : l.length = z.length) : l.take l.length ++ z.drop l.length = l := by
  rw [List.take_length, h, List.drop_length, List.append_nil]
theorem mix_zero {α : Type} (l z : List α) : l.take 0 ++ z.drop 0 = z := by simp
theorem drop_cons {α : Type} {l : List α} {i : Nat} (h : i < l.length) : l.drop i = l[i] :: l.drop (i + 1) := List.drop_eq_getElem_cons h
/-- All numbers of a list are from lo to hi. -/
def allB (lo hi : Int) (l : List Int) : Bool := l.all fun x => decide (lo ≤ x ∧ x ≤ hi)
theorem allB_cons (lo hi x : Int) (l : List Int) : allB lo hi (x :: l) = (decide (lo ≤ x ∧ x ≤ hi) && allB lo hi l) := rfl
theorem allB_iff {lo hi : Int} {l : List Int} : allB lo hi l = true ↔ ∀ x ∈ l, lo ≤ x ∧ x ≤ hi := by
  unfold allB
  rw [List.all_eq_true]
  simp only [decide_eq_true_eq]

theorem once_at (b : List Int) (hb : b.length ≤ 140737488351232) (i h n : Int) (h0 : 0 ≤ i) (h1 : i ≤ (b.length : Int)) (hn : 0 < n) :
    ∃ x i' h', spec_l01Once.f b i h n = some (x, i', h') ∧ 0 ≤ i' ∧ i' ≤ (b.length : Int) := by
  obtain ⟨x, i', h', e, _, _, p, q⟩ := below_at b hb i h n h0 h1 hn
  exact ⟨_, _, _, by unfold spec_l01Once.f; rw [e]; rfl, p, q⟩
theorem lev_j2 (b : List Int) (hb : b.length ≤ 140737488351232) (n : Nat) (hn : n = 16 ∨ n = 64) (out : List Int) (ho : out.length = n) (i x : Int) (hx : 0 ≤ x) (hx1 : x < (n : Int)) (p h : Int) (h0 : 0 ≤ p) (h1 : p ≤ (b.length : Int))
    (hh : ∀ out' : List Int, out'.length = n → ∀ p' h' : Int, 0 ≤ p' → p' ≤ (b.length : Int) → ∃ r p'' h'', Ev (fun k => spec_l11Levels.l0 k (n : Int) out' (wrap64 (i + 1)) b p' h') (r, p'', h'') ∧ r.length = n) :
    ∃ r p'' h'', Ev (fun k => spec_l11Levels.j2 k (n : Int) out i x b p h) (r, p'', h'') ∧ r.length = n := by
  obtain ⟨y, p1, h1', e1, _, _, a0, a1⟩ := below_at b hb p h 21 h0 h1 (by omega)
  obtain ⟨z, p2, h2', e2, b0, b1⟩ := once_at b hb p1 h1' 6 a0 a1 (by omega)
  cases z with
  | true =>
    obtain ⟨u, p3, h3', e3, _, _, c0, c1⟩ := below_at b hb p2 h2' 10001 b0 b1 (by omega)
    obtain ⟨r, p'', h'', er, lr⟩ := hh ((out.set x.toNat (wrap64 (y - 10))).set x.toNat (wrap64 (u - 5000))) (by simp; exact ho) p3 h3' c0 c1
    refine ⟨r, p'', h'', Ev.step (fun k => ?_) er, lr⟩
    simp only [spec_l11Levels.j2]
    rw [e1, Option.bind_some, if_pos hx, if_pos (by omega), Option.bind_some, e2, Option.bind_some, if_pos rfl, e3, Option.bind_some]
  | false =>
    obtain ⟨r, p'', h'', er, lr⟩ := hh (out.set x.toNat (wrap64 (y - 10))) (by simp; exact ho) p2 h2' b0 b1
    refine ⟨r, p'', h'', Ev.step (fun k => ?_) er, lr⟩
    simp only [spec_l11Levels.j2]
    rw [e1, Option.bind_some, if_pos hx, if_pos (by omega), Option.bind_some, e2, Option.bind_some, if_neg (by simp)]
theorem lev_l0 (b : List Int) (hb : b.length ≤ 140737488351232) (n : Nat) (hn : n = 16 ∨ n = 64) (d : Nat) : ∀ (i : Int), 0 ≤ i → 7 - i ≤ (d : Int) → i ≤ 7 → ∀ out' : List Int, out'.length = n → ∀ p' h' : Int, 0 ≤ p' → p' ≤ (b.length : Int) → ∃ r p'' h'', Ev (fun k => spec_l11Levels.l0 k (n : Int) out' i b p' h') (r, p'', h'') ∧ r.length = n := by
  induction d with
  | zero =>
    intro i hi hd hi7 out ho p h h0 h1
    obtain ⟨x, p1, h1', e1, x0, x1, a0, a1⟩ := below_at b hb p h 7 h0 h1 (by omega)
    have hj : Ev (fun k => spec_l11Levels.j1 k (n : Int) out i false b p1 h1') (out, p1, h1') := Ev.step (f := fun _ => some (out, p1, h1')) (fun k => by simp only [spec_l11Levels.j1]; rfl) (Ev.now _)
    refine ⟨out, p1, h1', Ev.step (fun k => ?_) hj, ho⟩
    simp only [spec_l11Levels.l0]
    rw [e1, Option.bind_some, if_neg (by omega)]
  | succ d ih =>
    intro i hi hd hi7 out ho p h h0 h1
    obtain ⟨x, p1, h1', e1, x0, x1, a0, a1⟩ := below_at b hb p h 7 h0 h1 (by omega)
    by_cases c : i < x
    · obtain ⟨y, p2, h2', e2, y0, y1, b0, b1⟩ := below_at b hb p1 h1' (n : Int) a0 a1 (by omega)
      obtain ⟨z, p3, h3', e3, c0, c1⟩ := once_at b hb p2 h2' 2 b0 b1 (by omega)
      have w : wrap64 (i + 1) = i + 1 := wrap_id (by omega) (by omega)
      have hh := ih (i + 1) (by clear w; omega) (by clear w; omega) (by clear w; omega)
      rw [← w] at hh
      have hd' : decide ((n : Int) > 0) = true := decide_eq_true (by clear w; omega)
      have ht : Int.tmod y 5 = y % 5 := Int.tmod_eq_emod_of_nonneg y0
      cases z with
      | true =>
        obtain ⟨r, p'', h'', er, lr⟩ := lev_j2 b hb n hn out ho i (y % 5) (by clear w ht; omega) (by clear w ht; omega) p3 h3' c0 c1 hh
        refine ⟨r, p'', h'', Ev.step (f := fun k => spec_l11Levels.j1 k (n : Int) out i true b p1 h1') (fun k => ?_) (Ev.step (fun k => ?_) er), lr⟩
        · simp only [spec_l11Levels.l0]
          rw [e1, Option.bind_some, if_pos c, hd']
        · simp only [spec_l11Levels.j1]
          rw [if_pos trivial, e2, Option.bind_some, e3, Option.bind_some, if_pos rfl, ht]
      | false =>
        obtain ⟨r, p'', h'', er, lr⟩ := lev_j2 b hb n hn out ho i y y0 y1 p3 h3' c0 c1 hh
        refine ⟨r, p'', h'', Ev.step (f := fun k => spec_l11Levels.j1 k (n : Int) out i true b p1 h1') (fun k => ?_) (Ev.step (fun k => ?_) er), lr⟩
        · simp only [spec_l11Levels.l0]
          rw [e1, Option.bind_some, if_pos c, hd']
        · simp only [spec_l11Levels.j1]
          rw [if_pos trivial, e2, Option.bind_some, e3, Option.bind_some, if_neg (by simp)]
    · have hj : Ev (fun k => spec_l11Levels.j1 k (n : Int) out i false b p1 h1') (out, p1, h1') := Ev.step (f := fun _ => some (out, p1, h1')) (fun k => by simp only [spec_l11Levels.j1]; rfl) (Ev.now _)
      refine ⟨out, p1, h1', Ev.step (fun k => ?_) hj, ho⟩
      simp only [spec_l11Levels.l0]
      rw [e1, Option.bind_some, if_neg c]
theorem drawlevels_ev (l : List Int) (hl : l.length ≤ 140737488351232) (n : Nat) (hn : n = 16 ∨ n = 64) : ∃ r, Ev (fun k => spec_DrawLevels.f k l (n : Int)) r ∧ r.length = n := by
  obtain ⟨h, e⟩ := new_ev l hl
  obtain ⟨r, p', h', er, lr⟩ := lev_l0 l hl n hn 7 0 (by omega) (by omega) (by omega) (List.replicate n 0) (by simp) 0 h (by omega) (by omega)
  refine ⟨r, ?_, lr⟩
  unfold spec_DrawLevels.f
  refine Ev.bind e (Ev.bind (a := (r, p', h')) ?_ (Ev.now _))
  unfold spec_l11Levels.f
  refine Ev.congr (fun k => ?_) er
  rw [if_pos (by omega), if_pos (by omega)]; rfl

def ord4 : List Int := [0, 1, 4, 8, 5, 2, 3, 6, 9, 12, 13, 10, 7, 11, 14, 15]
def ord8 : List Int := [0, 1, 8, 16, 9, 2, 3, 10, 17, 24, 32, 25, 18, 11, 4, 5, 12, 19, 26, 33, 40, 48, 41, 34, 27, 20, 13, 6, 7, 14, 21, 28, 35, 42, 49, 56, 57, 50, 43, 36, 29, 22, 15, 23, 30, 37, 44, 51, 58, 59, 52, 45, 38, 31, 39, 46, 53, 60, 61, 54, 47, 55, 62, 63]
def ordOf (side : Int) : List Int := if side = 4 then ord4 else ord8
/-- A side and its number of places. -/
def SideN (side : Int) (n : Nat) : Prop := side = 4 ∧ n = 16 ∨ side = 8 ∧ n = 64
theorem ord_len {side : Int} {n : Nat} (h : SideN side n) : (ordOf side).length = n := by rcases h with ⟨rfl, rfl⟩ | ⟨rfl, rfl⟩ <;> rfl
theorem ord_in {side : Int} {n : Nat} (h : SideN side n) : ∀ x ∈ ordOf side, 0 ≤ x ∧ x < (n : Int) := by
  rcases h with ⟨rfl, rfl⟩ | ⟨rfl, rfl⟩
  · decide +kernel
  · decide +kernel
theorem order4 : impl_scanOrder.f 100 4 = some ord4 := by decide +kernel
theorem order8 : impl_scanOrder.f 300 8 = some ord8 := by decide +kernel
theorem order_ev {side : Int} {n : Nat} (h : SideN side n) : Ev (fun k => impl_scanOrder.f k side) (ordOf side) := by
  rcases h with ⟨rfl, rfl⟩ | ⟨rfl, rfl⟩
  · exact Ev.of (fun k => impl_scanOrder.mono _ _) order4
  · exact Ev.of (fun k => impl_scanOrder.mono _ _) order8
/-- A list in the order of the scan. -/
def scanv (side : Int) (l : List Int) : List Int := (ordOf side).map (rd l)
theorem scanv_len {side : Int} {n : Nat} (h : SideN side n) (l : List Int) : (scanv side l).length = n := by rw [scanv, List.length_map, ord_len h]
theorem take_snoc' (l : List Int) (i : Nat) (h : i < l.length) : l.take i ++ [l[i]] = l.take (i + 1) := (List.take_succ_eq_append_getElem h).symm
def ScOk (side : Int) (l : List Int) : Prop := (side = 4 ∧ l.length = 16) ∨ (side = 8 ∧ l.length = 64)
instance (side : Int) (l : List Int) : Decidable (ScOk side l) := by unfold ScOk; infer_instance
theorem scok_side {side : Int} {l : List Int} (h : ScOk side l) : SideN side l.length := by rcases h with ⟨rfl, e⟩ | ⟨rfl, e⟩ <;> rw [e] <;> simp [SideN]
theorem scanned_loop {side : Int} {l : List Int} (h : SideN side l.length) : ∀ i, i ≤ l.length → Ev (fun k => impl_Scanned.l0 k l ((scanv side l).take i) (ordOf side) ((ordOf side).length : Int) (i : Int)) (scanv side l, true) := by
  have hn := ord_len h
  have hs := scanv_len h l
  have hlen : l.length ≤ 64 := by rcases h with ⟨_, e⟩ | ⟨_, e⟩ <;> omega
  refine down l.length ?_ ?_
  · refine Ev.step (f := fun _ => some (scanv side l, true)) (fun k => ?_) (Ev.now _)
    simp only [impl_Scanned.l0]
    rw [if_neg (by omega), List.take_of_length_le (by omega)]
  · intro i hi hh
    refine Ev.step (fun k => ?_) hh
    have hb := ord_in h (ordOf side)[i] (List.getElem_mem (by omega))
    have e : (scanv side l)[i]'(by omega) = rd l ((ordOf side)[i]'(by omega)) := by simp [scanv]
    simp only [impl_Scanned.l0]
    rw [if_pos (by omega), if_pos (by omega), if_pos (by omega), rd_nat _ i (by omega), if_pos hb.1, if_pos hb.2, if_pos (by simp; omega), ← e, take_snoc', wrap_id (by omega) (by omega), cast1]
theorem scanned_ev (side : Int) (l : List Int) : Ev (fun k => impl_Scanned.f k side l) (if ScOk side l then (scanv side l, true) else ([], false)) := by
  unfold impl_Scanned.f
  simp only [Option.bind_some]
  have hbad : Ev (fun k => impl_Scanned.j0 k side l [] true) ([], false) := Ev.step (f := fun _ => some ([], false)) (fun k => by simp only [impl_Scanned.j0]; rfl) (Ev.now _)
  have hok : ScOk side l → Ev (fun k => impl_Scanned.j0 k side l [] false) (scanv side l, true) := fun h =>
    Ev.step (fun k => by simp only [impl_Scanned.j0, Bool.false_eq_true, if_false]; rfl) (Ev.bind (order_ev (scok_side h)) (by simpa using scanned_loop (scok_side h) 0 (by omega)))
  by_cases c4 : side = 4
  · subst c4
    rw [wrap_id (x := 4 * 4) (by omega) (by omega)]
    by_cases c : l.length = 16
    · rw [if_pos (.inl ⟨rfl, c⟩)]
      simp only [if_true, c, show (((16 : Nat) : Int) != 4 * 4) = false from by decide]
      exact hok (.inl ⟨rfl, c⟩)
    · rw [if_neg (by rintro (⟨_, h⟩ | ⟨h, _⟩); exact c h; exact absurd h (by decide))]
      simp only [if_true, show ((l.length : Int) != 4 * 4) = true from by rw [bne_iff_ne]; omega]
      exact hbad
  · by_cases c8 : side = 8
    · subst c8
      simp only [if_neg c4]
      rw [wrap_id (x := 8 * 8) (by omega) (by omega)]
      by_cases c : l.length = 64
      · rw [if_pos (.inr ⟨rfl, c⟩)]
        simp only [if_true, c, show (((64 : Nat) : Int) != 8 * 8) = false from by decide]
        exact hok (.inr ⟨rfl, c⟩)
      · rw [if_neg (by rintro (⟨h, _⟩ | ⟨_, h⟩); exact absurd h (by decide); exact c h)]
        simp only [if_true, show ((l.length : Int) != 8 * 8) = true from by rw [bne_iff_ne]; omega]
        exact hbad
    · rw [if_neg (by rintro (⟨h, _⟩ | ⟨h, _⟩); exact c4 h; exact c8 h)]
      simp only [if_neg c4, if_neg c8]
      exact hbad
theorem scan_out_len (side : Int) (l : List Int) : (if ScOk side l then (scanv side l, true) else (([] : List Int), false)).1.length ≤ 64 := by
  by_cases h : ScOk side l
  · rw [if_pos h]
    have := scanv_len (scok_side h) l
    rcases h with ⟨_, e⟩ | ⟨_, e⟩ <;> simp only [] <;> omega
  · rw [if_neg h]; simp
/-- The list that comes of the order of the scan, from place i on. -/
def unsc (side : Int) (l : List Int) : Nat → Nat → List Int → List Int
  | 0, _, out => out
  | d + 1, i, out => unsc side l d (i + 1) (out.set (rd (ordOf side) (i : Int)).toNat (rd l (i : Int)))
theorem unsc_len (side : Int) (l : List Int) (d : Nat) : ∀ i out, (unsc side l d i out).length = out.length := by
  induction d with
  | zero => intro i out; rfl
  | succ d ih => intro i out; simp only [unsc]; rw [ih]; simp
def unscv (side : Int) (l : List Int) : List Int := unsc side l l.length 0 (List.replicate l.length 0)
theorem unscv_len (side : Int) (l : List Int) : (unscv side l).length = l.length := by unfold unscv; rw [unsc_len]; simp
theorem unscanned_loop {side : Int} {l : List Int} (h : SideN side l.length) : ∀ i, i ≤ l.length → ∀ out : List Int, out.length = l.length → Ev (fun k => impl_Unscanned.l0 k l out (ordOf side) ((ordOf side).length : Int) (i : Int)) (unsc side l (l.length - i) i out, true) := by
  have hn := ord_len h
  have hlen : l.length ≤ 64 := by rcases h with ⟨_, e⟩ | ⟨_, e⟩ <;> omega
  refine down l.length ?_ ?_
  · intro out _
    rw [Nat.sub_self]
    refine Ev.step (f := fun _ => some (out, true)) (fun k => ?_) (Ev.now _)
    simp only [impl_Unscanned.l0]
    rw [if_neg (by omega)]
  · intro i hi hh out ho
    have e1 : l.length - i = (l.length - (i + 1)) + 1 := by omega
    rw [e1]
    have hb : 0 ≤ rd (ordOf side) (i : Int) ∧ rd (ordOf side) (i : Int) < (l.length : Int) := by
      rw [rd_nat _ i (by omega)]; exact ord_in h _ (List.getElem_mem (by omega))
    refine Ev.step (fun k => ?_) (hh (out.set (rd (ordOf side) (i : Int)).toNat (rd l (i : Int))) (by simpa using ho))
    simp only [impl_Unscanned.l0]
    rw [if_pos (by omega), if_pos (by omega), if_pos (by omega), if_pos (by omega), if_pos hb.1, if_pos (by omega), wrap_id (by omega) (by omega), cast1]
theorem unscanned_ev (side : Int) (l : List Int) : Ev (fun k => impl_Unscanned.f k side l) (if ScOk side l then (unscv side l, true) else ([], false)) := by
  unfold impl_Unscanned.f
  have hbad : Ev (fun k => impl_Unscanned.j0 k side l true) ([], false) := Ev.step (f := fun _ => some ([], false)) (fun k => by simp only [impl_Unscanned.j0]; rfl) (Ev.now _)
  have hok : ScOk side l → Ev (fun k => impl_Unscanned.j0 k side l false) (unscv side l, true) := fun h => by
    have hlen : l.length ≤ 64 := by rcases h with ⟨_, e⟩ | ⟨_, e⟩ <;> omega
    refine Ev.step (fun k => by simp only [impl_Unscanned.j0, Bool.false_eq_true, if_false]; rw [if_pos (by omega), if_pos (by simp; omega), Int.toNat_natCast]) (Ev.bind (order_ev (scok_side h)) ?_)
    exact unscanned_loop (scok_side h) 0 (by omega) _ (by simp)
  by_cases c4 : side = 4
  · subst c4
    rw [wrap_id (x := 4 * 4) (by omega) (by omega)]
    by_cases c : l.length = 16
    · rw [if_pos (.inl ⟨rfl, c⟩)]
      simp only [if_true, c, show (((16 : Nat) : Int) != 4 * 4) = false from by decide]
      exact hok (.inl ⟨rfl, c⟩)
    · rw [if_neg (by rintro (⟨_, h⟩ | ⟨h, _⟩); exact c h; exact absurd h (by decide))]
      simp only [if_true, show ((l.length : Int) != 4 * 4) = true from by rw [bne_iff_ne]; omega]
      exact hbad
  · by_cases c8 : side = 8
    · subst c8
      simp only [if_neg c4]
      rw [wrap_id (x := 8 * 8) (by omega) (by omega)]
      by_cases c : l.length = 64
      · rw [if_pos (.inr ⟨rfl, c⟩)]
        simp only [if_true, c, show (((64 : Nat) : Int) != 8 * 8) = false from by decide]
        exact hok (.inr ⟨rfl, c⟩)
      · rw [if_neg (by rintro (⟨h, _⟩ | ⟨_, h⟩); exact absurd h (by decide); exact c h)]
        simp only [if_true, show ((l.length : Int) != 8 * 8) = true from by rw [bne_iff_ne]; omega]
        exact hbad
    · rw [if_neg (by rintro (⟨h, _⟩ | ⟨h, _⟩); exact c4 h; exact c8 h)]
      simp only [if_neg c4, if_neg c8]
      exact hbad
theorem unsc_out_len (side : Int) (l : List Int) : (if ScOk side l then (unscv side l, true) else (([] : List Int), false)).1.length ≤ 64 := by
  by_cases h : ScOk side l
  · rw [if_pos h]
    have := unscv_len side l
    rcases h with ⟨_, e⟩ | ⟨_, e⟩ <;> simp only [] <;> omega
  · rw [if_neg h]; simp

theorem same_ev (a b : List Int) (ha : a.length ≤ 17592186043904) : Ev (fun k => laws_sameInts.f k a b) (decide (a = b)) := by
  by_cases hl : a.length = b.length
  · have H : ∀ i, i ≤ a.length → Ev (fun k => laws_sameInts.l0 k a b (i : Int)) (decide (a.drop i = b.drop i)) := by
      refine down a.length ?_ ?_
      · refine Ev.step (f := fun _ => some true) (fun k => ?_) ?_
        · simp only [laws_sameInts.l0]
          rw [if_neg (by omega)]
        · rw [show decide (a.drop a.length = b.drop a.length) = true by rw [hl]; simp [← hl]]; exact Ev.now _
      · intro i hi h
        have hb : i < b.length := by omega
        by_cases c : a[i] = b[i]
        · have e : decide (a.drop i = b.drop i) = decide (a.drop (i + 1) = b.drop (i + 1)) := by
            rw [decide_eq_decide, drop_cons hi, drop_cons hb, c, List.cons.injEq]; simp only [true_and]
          rw [e]
          refine Ev.step (fun k => ?_) h
          simp only [laws_sameInts.l0]
          rw [if_pos (by omega), if_pos (by omega), if_pos (by omega), rd_nat a i hi, rd_nat b i hb, if_pos c, wrap_id (by omega) (by omega), cast1]
        · have e : decide (a.drop i = b.drop i) = false := by
            rw [decide_eq_false_iff_not, drop_cons hi, drop_cons hb, List.cons.injEq]; exact fun h => c h.1
          rw [e]
          refine Ev.step (f := fun _ => some false) (fun k => ?_) (Ev.now _)
          simp only [laws_sameInts.l0]
          rw [if_pos (by omega), if_pos (by omega), if_pos (by omega), rd_nat a i hi, rd_nat b i hb, if_neg c]
    have h0 := H 0 (by omega)
    unfold laws_sameInts.f
    refine Ev.congr (fun k => ?_) h0
    rw [if_pos (by omega)]; rfl
  · unfold laws_sameInts.f
    rw [show decide (a = b) = false from decide_eq_false (fun h => hl (by rw [h]))]
    refine Ev.congr (f := fun _ => some false) (fun k => ?_) (Ev.now _)
    rw [if_neg (by omega)]
theorem sameSelf_ev (a : List Int) (ha : a.length ≤ 17592186043904) : Ev (fun k => laws_sameInts.f k a a) true := by
  have h := same_ev a a ha
  rwa [decide_eq_true rfl] at h

theorem isat4 : ∀ j : Fin 16, impl_ScanAt.f 200 4 (j.val : Int) = some (rd ord4 (j.val : Int)) := by decide +kernel
theorem isat8 : ∀ j : Fin 64, impl_ScanAt.f 400 8 (j.val : Int) = some (rd ord8 (j.val : Int)) := by decide +kernel
theorem isat_ev {side : Int} {n : Nat} (h : SideN side n) (i : Nat) (hi : i < n) : Ev (fun k => impl_ScanAt.f k side (i : Int)) (rd (ordOf side) (i : Int)) := by
  rcases h with ⟨rfl, rfl⟩ | ⟨rfl, rfl⟩
  · exact Ev.of (fun k => impl_ScanAt.mono _ _ _) (isat4 ⟨i, hi⟩)
  · exact Ev.of (fun k => impl_ScanAt.mono _ _ _) (isat8 ⟨i, hi⟩)
/-- What was seen of a square of n places ahead of step i. -/
def seenS (side : Int) (n i : Nat) : List Bool := ((ordOf side).take i).foldl (fun s x => s.set x.toNat true) (List.replicate n false)
theorem seen_len (side : Int) (n i : Nat) : (seenS side n i).length = n := by
  unfold seenS
  generalize (ordOf side).take i = l
  have : ∀ (l : List Int) (s : List Bool), (l.foldl (fun s x => s.set x.toNat true) s).length = s.length := by
    intro l
    induction l with
    | nil => intro s; rfl
    | cons x l ih => intro s; rw [List.foldl_cons, ih, List.length_set]
  rw [this, List.length_replicate]
theorem seen_succ {side : Int} {n : Nat} (h : SideN side n) (i : Nat) (hi : i < n) : seenS side n (i + 1) = (seenS side n i).set (rd (ordOf side) (i : Int)).toNat true := by
  have hl := ord_len h
  have hi' : i < (ordOf side).length := by omega
  unfold seenS
  rw [← take_snoc' _ i hi', List.foldl_append, rd_nat _ i hi']
  rfl
theorem unseen4 : ∀ i : Fin 16, rdOf false (seenS 4 16 i.val) (rd ord4 (i.val : Int)) = false := by decide +kernel
theorem unseen8 : ∀ i : Fin 64, rdOf false (seenS 8 64 i.val) (rd ord8 (i.val : Int)) = false := by decide +kernel
theorem unseen {side : Int} {n : Nat} (h : SideN side n) (i : Nat) (hi : i < n) : rdOf false (seenS side n i) (rd (ordOf side) (i : Int)) = false := by
  rcases h with ⟨rfl, rfl⟩ | ⟨rfl, rfl⟩
  · exact unseen4 ⟨i, hi⟩
  · exact unseen8 ⟨i, hi⟩
/-- The diagonal of the place of step i. -/
def diagOf (side x : Int) : Int := wrap64 (wrap64 (Int.tdiv x side) + Int.tmod x side)
def diagS (side : Int) : Nat → Int
  | 0 => 0
  | i + 1 => diagOf side (rd (ordOf side) (i : Int))
theorem diag4 : ∀ i : Fin 16, ¬ (diagOf 4 (rd ord4 (i.val : Int)) < diagS 4 i.val) ∧ ¬ (diagOf 4 (rd ord4 (i.val : Int)) > wrap64 (diagS 4 i.val + 1)) := by decide +kernel
theorem diag8 : ∀ i : Fin 64, ¬ (diagOf 8 (rd ord8 (i.val : Int)) < diagS 8 i.val) ∧ ¬ (diagOf 8 (rd ord8 (i.val : Int)) > wrap64 (diagS 8 i.val + 1)) := by decide +kernel
theorem diag_next {side : Int} {n : Nat} (h : SideN side n) (i : Nat) (hi : i < n) : ¬ (diagOf side (rd (ordOf side) (i : Int)) < diagS side i) ∧ ¬ (diagOf side (rd (ordOf side) (i : Int)) > wrap64 (diagS side i + 1)) := by
  rcases h with ⟨rfl, rfl⟩ | ⟨rfl, rfl⟩
  · exact diag4 ⟨i, hi⟩
  · exact diag8 ⟨i, hi⟩
theorem back4 (f : Nat → Int) : unscv 4 (scanv 4 ((List.range 16).map f)) = (List.range 16).map f := by kernel_rfl
theorem back8 (f : Nat → Int) : unscv 8 (scanv 8 ((List.range 64).map f)) = (List.range 64).map f := by kernel_rfl
theorem list_map (l : List Int) (n : Nat) (h : l.length = n) : l = (List.range n).map (fun i : Nat => rd l (i : Int)) := by
  apply List.ext_getElem
  · simp [h]
  · intro i h1 h2
    rw [List.getElem_map, List.getElem_range, rd_nat l i h1]
theorem back_ev {side : Int} {l : List Int} (h : SideN side l.length) : unscv side (scanv side l) = l := by
  rcases h with ⟨rfl, e⟩ | ⟨rfl, e⟩
  · rw [list_map l 16 e, back4]
  · rw [list_map l 64 e, back8]
theorem scans_loop {side : Int} {l : List Int} (h : SideN side l.length) (hn : wrap64 (side * side) = (l.length : Int)) :
    ∀ i, i ≤ l.length → Ev (fun k => laws_FnScans.l0 k side l (scanv side l) (seenS side l.length i) (diagS side i) (i : Int)) true := by
  have hL : l.length ≤ 64 := by rcases h with ⟨_, e⟩ | ⟨_, e⟩ <;> omega
  have hs0 : ¬ (side = 0) := by rcases h with ⟨e, _⟩ | ⟨e, _⟩ <;> omega
  refine down l.length ?_ ?_
  · refine Ev.step (f := fun _ => some true) (fun k => ?_) (Ev.now _)
    simp only [laws_FnScans.l0]
    rw [hn, if_neg (by omega)]
  · intro i hi h'
    have hsat := isat_ev h i hi
    have hlo := ord_len h
    have hls := scanv_len h l
    have hsl := seen_len side l.length i
    have hx := rd_mem (ord_in h) (i : Int) (by omega) (by omega)
    have hv : rd (scanv side l) (i : Int) = rd l (rd (ordOf side) (i : Int)) := by
      rw [rd_nat _ i (by omega)]
      unfold scanv
      rw [List.getElem_map, rd_nat _ i (by omega)]
    have hu := unseen h i hi
    have hdg := diag_next h i hi
    rw [seen_succ h i hi, diagS] at h'
    generalize rd (ordOf side) (i : Int) = x at hsat hx hv hu hdg h'
    have p1 : (i : Int) < (l.length : Int) := by omega
    have p2 : ¬ (x < 0) := by omega
    have p3 : ¬ (x ≥ (l.length : Int)) := by omega
    have p4 : 0 ≤ x := hx.1
    have p5 : x < ((seenS side l.length i).length : Int) := by omega
    have p6 : 0 ≤ (i : Int) := by omega
    have p7 : (i : Int) < ((scanv side l).length : Int) := by omega
    have p8 : x < (l.length : Int) := hx.2
    have w1 : wrap64 ((i : Int) + 1) = ((i + 1 : Nat) : Int) := by clear hn hdg; exact wrap_id (by omega) (by omega)
    have pb : (rd (scanv side l) (i : Int) != rd l x) = false := by rw [hv]; exact bne_self_eq_false _
    have d1 : ¬ (wrap64 (wrap64 (Int.tdiv x side) + Int.tmod x side) < diagS side i) := hdg.1
    have d2 : ¬ (wrap64 (wrap64 (Int.tdiv x side) + Int.tmod x side) > wrap64 (diagS side i + 1)) := hdg.2
    have hj : Ev (fun k => laws_FnScans.j2 k side l (scanv side l) (seenS side l.length i) (diagS side i) (i : Int) x false) true := by
      refine Ev.step (fun k => ?_) h'
      simp only [laws_FnScans.j2, Bool.false_eq_true, if_false]
      rw [if_neg hs0, if_neg d1, if_neg d2, if_pos p4, if_pos p5, w1]
      rfl
    refine Ev.step (fun k => by simp only [laws_FnScans.l0]; rw [hn, if_pos p1]) (Ev.bind hsat ?_)
    simp only [p2, p3, p4, p5, p6, p7, p8, hu, pb, if_true, if_false, Bool.false_eq_true]
    exact hj
theorem FnScans : laws_FnScans.Pure := by
  intro l _ hl _
  rw [Nat.mul_one] at hl
  refine Ev.rounds ?_
  unfold laws_FnScans.f laws_big.f
  simp only [Option.bind_some]
  by_cases c : (l.length : Int) > 1048576
  · simp only [c, decide_true, if_true]; exact Ev.now _
  · simp only [c, decide_false, Bool.false_eq_true, if_false]
    obtain ⟨p, hp, lp, bp⟩ := places_ev l hl
    have r0 := rd_mem bp 0 (by omega) (by omega)
    refine Ev.bind hp ?_
    have pl : 0 < (p.length : Int) := by omega
    have ht : Int.tmod (rd p 0) 2 = rd p 0 % 2 := Int.tmod_eq_emod_of_nonneg r0.1
    simp only [pl, if_true, ht]
    have key : ∀ side : Int, ∀ n : Nat, SideN side n → wrap64 (side * side) = (n : Int) → Ev (fun k => (spec_DrawLevels.f k l (wrap64 (side * side))).bind fun t220 => ((some (([] : List Int) : List Int)).bind fun y223 => (if y223.length + t220.length < 17592186044416 then ((impl_Scanned.f k side (y223 ++ t220)).bind fun bt229 => ((some (([] : List Int) : List Int)).bind fun y233 => (if y233.length + bt229.1.length < 17592186044416 then ((impl_Unscanned.f k side (y233 ++ bt229.1)).bind fun bt239 => (if bt229.2 = true then (if bt239.2 = true then ((laws_sameInts.f k bt239.1 t220).bind fun t243 => (laws_FnScans.j0 k side t220 bt229.1 (!t243))) else (laws_FnScans.j0 k side t220 bt229.1 true)) else (laws_FnScans.j0 k side t220 bt229.1 true))) else (none)))) else (none)))) true := by
      intro side n hside hn
      obtain ⟨r, er, lr⟩ := drawlevels_ev l hl n (by rcases hside with ⟨_, e⟩ | ⟨_, e⟩ <;> omega)
      rw [hn]
      have hside' : SideN side r.length := by rw [lr]; exact hside
      have n64 : n ≤ 64 := by clear hn; rcases hside with ⟨_, e⟩ | ⟨_, e⟩ <;> omega
      have hlv := scanv_len hside r
      have ok1 : ScOk side r := hside.elim (fun q => .inl ⟨q.1, by rw [lr]; exact q.2⟩) (fun q => .inr ⟨q.1, by rw [lr]; exact q.2⟩)
      have ok2 : ScOk side (scanv side r) := hside.elim (fun q => .inl ⟨q.1, by rw [hlv]; exact q.2⟩) (fun q => .inr ⟨q.1, by rw [hlv]; exact q.2⟩)
      have hS := scanned_ev side r
      rw [if_pos ok1] at hS
      have hU := unscanned_ev side (scanv side r)
      rw [if_pos ok2, back_ev hside'] at hU
      have hq := sameSelf_ev r (by clear hn; omega)
      have g1 : ([] : List Int).length + r.length < 17592186044416 := by clear hn; simp; omega
      have g2 : ([] : List Int).length + (scanv side r).length < 17592186044416 := by clear hn; simp; omega
      refine Ev.bind er ?_
      simp only [Option.bind_some, g1, if_true, List.nil_append]
      refine Ev.bind hS ?_
      simp only [g2, if_true]
      refine Ev.bind hU ?_
      simp only [if_true]
      refine Ev.bind hq ?_
      have hn' : wrap64 (side * side) = (r.length : Int) := by rw [lr]; exact hn
      have hloop := scans_loop hside' hn' 0 (by clear hn hn'; omega)
      refine Ev.step (fun k => ?_) hloop
      simp only [laws_FnScans.j0, Bool.not_true, Bool.false_eq_true, if_false]
      rw [hn', if_pos (by clear hn hn'; omega), if_pos (by clear hn hn'; omega)]
      rfl
    by_cases cm : rd p 0 % 2 = 0
    · have e : wrap64 (4 + wrap64 (4 * (rd p 0 % 2))) = 4 := by rw [cm]; unfold wrap64; decide
      simp only [e]
      exact key 4 16 (.inl ⟨rfl, rfl⟩) (by unfold wrap64; decide)
    · have cm1 : rd p 0 % 2 = 1 := by omega
      have e : wrap64 (4 + wrap64 (4 * (rd p 0 % 2))) = 8 := by rw [cm1]; unfold wrap64; decide
      simp only [e]
      exact key 8 64 (.inr ⟨rfl, rfl⟩) (by unfold wrap64; decide)

end Go.Proofs.Ythinpmpjfhjbhaa.Pure
