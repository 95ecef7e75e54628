/- The program's Unscanned answers what the reference's Unscanned answers, for all sides and lists; its result is new memory, and its argument stays as it was. No condition beside the row's own. -/
import Derived.Test.YtokaccgaendhmaaQFnExactUnscannedx4
namespace Go.Proofs.Ytokaccgaendhmaa.Pure
open Go.RowKit Go.Proofs.Ytokaccgaendhmaa.QFnExactUnscanned Go.Proofs.YtokaccgaendhmaaW.PrintWords Go.Proofs.YtokaccgaendhmaaW.PrintLast Go.Proofs.YtokaccgaendhmaaW.PrintMore
set_option linter.unusedVariables false
set_option linter.unusedSimpArgs false

theorem wrap_id {x : Int} (h0 : -9223372036854775808 ≤ x) (h1 : x ≤ 9223372036854775807) : wrap64 x = x := by
  unfold wrap64
  omega
theorem wf64 {n : Int} (h : (Lit.int .i64 n).wf = true) : -9223372036854775808 ≤ n ∧ n ≤ 9223372036854775807 := by
  simp [Lit.wf, IntKind.min, IntKind.max, IntKind.signed, IntKind.bits] at h
  omega
theorem wfu8 {n : Int} (h : (Lit.int .u8 n).wf = true) : 0 ≤ n ∧ n ≤ 255 := by
  simp [Lit.wf, IntKind.min, IntKind.max, IntKind.signed, IntKind.bits] at h
  omega
theorem in_eq (a b c : Int) : spec_l01In.f a b c = some (decide (b ≤ a ∧ a ≤ c)) := by
  unfold spec_l01In.f
  by_cases h : a ≥ b
  · rw [if_pos h]; congr 1; rw [decide_eq_decide]; omega
  · rw [if_neg h]; congr 1; symm; rw [decide_eq_false_iff_not]; omega

theorem down {P : Nat → Prop} (n : Nat) (h0 : P n) (hs : ∀ i, i < n → P (i + 1) → P i) : ∀ i, i ≤ n → P i := by
  intro i hi
  obtain ⟨d, hd⟩ : ∃ d, d = n - i := ⟨_, rfl⟩
  induction d generalizing i with
  | zero => have : i = n := by omega
            subst this; exact h0
  | succ d ih => exact hs i (by omega) (ih (i + 1) (by omega) (by omega))
theorem rd_nat (l : List Int) (i : Nat) (h : i < l.length) : rd l (i : Int) = l[i] := by
  unfold rd
  rw [List.getD_eq_getElem?_getD, Int.toNat_natCast, List.getElem?_eq_getElem h]; rfl
theorem cast1 (i : Nat) : ((i : Nat) : Int) + 1 = ((i + 1 : Nat) : Int) := rfl
theorem mix_set {α : Type} (l z : List α) (i : Nat) (hi : i < l.length) (hz : i < z.length) : (l.take i ++ z.drop i).set i l[i] = l.take (i + 1) ++ z.drop (i + 1) := by
  rw [List.set_append_right _ _ (by simp; omega)]
  rw [show i - (l.take i).length = 0 by simp; omega]
  rw [List.drop_eq_getElem_cons hz, List.set_cons_zero, List.take_succ_eq_append_getElem hi, List.append_assoc]; rfl
theorem mix_length {α : Type} (l z : List α) (i : Nat) (h : l.length = z.length) (hi : i ≤ l.length) : (l.take i ++ z.drop i).length = l.length := by
  simp; omega
theorem mix_end {α : Type} (l z : List α) (h : l.length = z.length) : l.take l.length ++ z.drop l.length = l := by
  rw [List.take_length, h, List.drop_length, List.append_nil]
theorem mix_zero {α : Type} (l z : List α) : l.take 0 ++ z.drop 0 = z := by simp
theorem drop_cons {α : Type} {l : List α} {i : Nat} (h : i < l.length) : l.drop i = l[i] :: l.drop (i + 1) := List.drop_eq_getElem_cons h
theorem toInts_ev (l : List Int) (hl : l.length ≤ 17592186043904) : Ev (fun k => laws_toIntS.f k l) l := by
  have H : ∀ i, i ≤ l.length → Ev (fun k => laws_toIntS.l0 k l (l.take i ++ (List.replicate l.length (0 : Int)).drop i) (i : Int)) l := by
    refine down l.length ?_ ?_
    · refine Ev.step (f := fun _ => some l) (fun k => ?_) (Ev.now _)
      simp only [laws_toIntS.l0]
      rw [if_neg (by omega), mix_end _ _ (by simp)]
    · intro i hi h
      refine Ev.step (fun k => ?_) h
      simp only [laws_toIntS.l0]
      rw [if_pos (by omega), if_pos (by omega), if_pos (by rw [mix_length _ _ _ (by simp) (by omega)]; omega), rd_nat l i hi, Int.toNat_natCast, mix_set _ _ _ hi (by simp; exact hi), wrap_id (by omega) (by omega), cast1]
  have h0 := H 0 (by omega)
  rw [mix_zero] at h0
  unfold laws_toIntS.f
  refine Ev.congr (fun k => ?_) h0
  rw [if_pos (by omega), if_pos (by simp; omega), Int.toNat_natCast]; rfl
theorem eqInts_ev (a b : List Int) (ha : a.length ≤ 17592186043904) : Ev (fun k => laws_eqIntS.f k a b) (decide (a = b)) := by
  by_cases hl : a.length = b.length
  · have H : ∀ i, i ≤ a.length → Ev (fun k => laws_eqIntS.l0 k a b (i : Int)) (decide (a.drop i = b.drop i)) := by
      refine down a.length ?_ ?_
      · refine Ev.step (f := fun _ => some true) (fun k => ?_) ?_
        · simp only [laws_eqIntS.l0]
          rw [if_neg (by omega)]
        · rw [show decide (a.drop a.length = b.drop a.length) = true by rw [hl]; simp [← hl]]; exact Ev.now _
      · intro i hi h
        have hb : i < b.length := by omega
        by_cases c : a[i] = b[i]
        · have e : decide (a.drop i = b.drop i) = decide (a.drop (i + 1) = b.drop (i + 1)) := by
            rw [decide_eq_decide, drop_cons hi, drop_cons hb, c, List.cons.injEq]; simp only [true_and]
          rw [e]
          refine Ev.step (fun k => ?_) h
          simp only [laws_eqIntS.l0]
          rw [if_pos (by omega), if_pos (by omega), if_pos (by omega), rd_nat a i hi, rd_nat b i hb, if_pos c, wrap_id (by omega) (by omega), cast1]
        · have e : decide (a.drop i = b.drop i) = false := by
            rw [decide_eq_false_iff_not, drop_cons hi, drop_cons hb, List.cons.injEq]; exact fun h => c h.1
          rw [e]
          refine Ev.step (f := fun _ => some false) (fun k => ?_) (Ev.now _)
          simp only [laws_eqIntS.l0]
          rw [if_pos (by omega), if_pos (by omega), if_pos (by omega), rd_nat a i hi, rd_nat b i hb, if_neg c]
    have h0 := H 0 (by omega)
    unfold laws_eqIntS.f
    refine Ev.congr (fun k => ?_) h0
    rw [if_pos (by omega)]; rfl
  · unfold laws_eqIntS.f
    rw [show decide (a = b) = false from decide_eq_false (fun h => hl (by rw [h]))]
    refine Ev.congr (f := fun _ => some false) (fun k => ?_) (Ev.now _)
    rw [if_neg (by omega)]
/-- All numbers of a list are from lo to hi. -/
def allB (lo hi : Int) (l : List Int) : Bool := l.all fun x => decide (lo ≤ x ∧ x ≤ hi)
theorem allB_cons (lo hi x : Int) (l : List Int) : allB lo hi (x :: l) = (decide (lo ≤ x ∧ x ≤ hi) && allB lo hi l) := rfl
theorem allB_iff {lo hi : Int} {l : List Int} : allB lo hi l = true ↔ ∀ x ∈ l, lo ≤ x ∧ x ≤ hi := by
  unfold allB
  rw [List.all_eq_true]
  simp only [decide_eq_true_eq]

def ord4 : List Int := [0, 1, 4, 8, 5, 2, 3, 6, 9, 12, 13, 10, 7, 11, 14, 15]
def ord8 : List Int := [0, 1, 8, 16, 9, 2, 3, 10, 17, 24, 32, 25, 18, 11, 4, 5, 12, 19, 26, 33, 40, 48, 41, 34, 27, 20, 13, 6, 7, 14, 21, 28, 35, 42, 49, 56, 57, 50, 43, 36, 29, 22, 15, 23, 30, 37, 44, 51, 58, 59, 52, 45, 38, 31, 39, 46, 53, 60, 61, 54, 47, 55, 62, 63]
def ordOf (side : Int) : List Int := if side = 4 then ord4 else ord8
/-- A side and its number of places. -/
def SideN (side : Int) (n : Nat) : Prop := side = 4 ∧ n = 16 ∨ side = 8 ∧ n = 64
theorem ord_len {side : Int} {n : Nat} (h : SideN side n) : (ordOf side).length = n := by rcases h with ⟨rfl, rfl⟩ | ⟨rfl, rfl⟩ <;> rfl
theorem ord_in {side : Int} {n : Nat} (h : SideN side n) : ∀ x ∈ ordOf side, 0 ≤ x ∧ x < (n : Int) := by
  rcases h with ⟨rfl, rfl⟩ | ⟨rfl, rfl⟩
  · decide +kernel
  · decide +kernel
theorem order4 : impl_scanOrder.f 100 4 = some ord4 := by decide +kernel
theorem order8 : impl_scanOrder.f 300 8 = some ord8 := by decide +kernel
theorem order_ev {side : Int} {n : Nat} (h : SideN side n) : Ev (fun k => impl_scanOrder.f k side) (ordOf side) := by
  rcases h with ⟨rfl, rfl⟩ | ⟨rfl, rfl⟩
  · exact Ev.of (fun k => impl_scanOrder.mono _ _) order4
  · exact Ev.of (fun k => impl_scanOrder.mono _ _) order8
theorem sat4 : ∀ j : Fin 16, spec_ScanAt.f 200 4 (j.val : Int) = some (rd ord4 (j.val : Int)) := by decide +kernel
theorem sat8 : ∀ j : Fin 64, spec_ScanAt.f 400 8 (j.val : Int) = some (rd ord8 (j.val : Int)) := by decide +kernel
theorem sat_ev {side : Int} {n : Nat} (h : SideN side n) (i : Nat) (hi : i < n) : Ev (fun k => spec_ScanAt.f k side (i : Int)) (rd (ordOf side) (i : Int)) := by
  rcases h with ⟨rfl, rfl⟩ | ⟨rfl, rfl⟩
  · exact Ev.of (fun k => spec_ScanAt.mono _ _ _) (sat4 ⟨i, hi⟩)
  · exact Ev.of (fun k => spec_ScanAt.mono _ _ _) (sat8 ⟨i, hi⟩)
/-- A list in the order of the scan. -/
def scanv (side : Int) (l : List Int) : List Int := (ordOf side).map (rd l)
theorem scanv_len {side : Int} {n : Nat} (h : SideN side n) (l : List Int) : (scanv side l).length = n := by rw [scanv, List.length_map, ord_len h]
theorem take_snoc' (l : List Int) (i : Nat) (h : i < l.length) : l.take i ++ [l[i]] = l.take (i + 1) := (List.take_succ_eq_append_getElem h).symm
def ScOk (side : Int) (l : List Int) : Prop := (side = 4 ∧ l.length = 16) ∨ (side = 8 ∧ l.length = 64)
instance (side : Int) (l : List Int) : Decidable (ScOk side l) := by unfold ScOk; infer_instance
theorem scok_side {side : Int} {l : List Int} (h : ScOk side l) : SideN side l.length := by rcases h with ⟨rfl, e⟩ | ⟨rfl, e⟩ <;> rw [e] <;> simp [SideN]
theorem scan_out_len (side : Int) (l : List Int) : (if ScOk side l then (scanv side l, true) else (([] : List Int), false)).1.length ≤ 64 := by
  by_cases h : ScOk side l
  · rw [if_pos h]
    have := scanv_len (scok_side h) l
    rcases h with ⟨_, e⟩ | ⟨_, e⟩ <;> simp only [] <;> omega
  · rw [if_neg h]; simp
/-- The list that comes of the order of the scan, from place i on. -/
def unsc (side : Int) (l : List Int) : Nat → Nat → List Int → List Int
  | 0, _, out => out
  | d + 1, i, out => unsc side l d (i + 1) (out.set (rd (ordOf side) (i : Int)).toNat (rd l (i : Int)))
theorem unsc_len (side : Int) (l : List Int) (d : Nat) : ∀ i out, (unsc side l d i out).length = out.length := by
  induction d with
  | zero => intro i out; rfl
  | succ d ih => intro i out; simp only [unsc]; rw [ih]; simp
def unscv (side : Int) (l : List Int) : List Int := unsc side l l.length 0 (List.replicate l.length 0)
theorem unscv_len (side : Int) (l : List Int) : (unscv side l).length = l.length := by unfold unscv; rw [unsc_len]; simp
theorem unscanned_loop {side : Int} {l : List Int} (h : SideN side l.length) : ∀ i, i ≤ l.length → ∀ out : List Int, out.length = l.length → Ev (fun k => impl_Unscanned.l0 k l out (ordOf side) ((ordOf side).length : Int) (i : Int)) (unsc side l (l.length - i) i out, true) := by
  have hn := ord_len h
  have hlen : l.length ≤ 64 := by rcases h with ⟨_, e⟩ | ⟨_, e⟩ <;> omega
  refine down l.length ?_ ?_
  · intro out _
    rw [Nat.sub_self]
    refine Ev.step (f := fun _ => some (out, true)) (fun k => ?_) (Ev.now _)
    simp only [impl_Unscanned.l0]
    rw [if_neg (by omega)]
  · intro i hi hh out ho
    have e1 : l.length - i = (l.length - (i + 1)) + 1 := by omega
    rw [e1]
    have hb : 0 ≤ rd (ordOf side) (i : Int) ∧ rd (ordOf side) (i : Int) < (l.length : Int) := by
      rw [rd_nat _ i (by omega)]; exact ord_in h _ (List.getElem_mem (by omega))
    refine Ev.step (fun k => ?_) (hh (out.set (rd (ordOf side) (i : Int)).toNat (rd l (i : Int))) (by simpa using ho))
    simp only [impl_Unscanned.l0]
    rw [if_pos (by omega), if_pos (by omega), if_pos (by omega), if_pos (by omega), if_pos hb.1, if_pos (by omega), wrap_id (by omega) (by omega), cast1]
theorem unscanned_ev (side : Int) (l : List Int) : Ev (fun k => impl_Unscanned.f k side l) (if ScOk side l then (unscv side l, true) else ([], false)) := by
  unfold impl_Unscanned.f
  have hbad : Ev (fun k => impl_Unscanned.j0 k side l true) ([], false) := Ev.step (f := fun _ => some ([], false)) (fun k => by simp only [impl_Unscanned.j0]; rfl) (Ev.now _)
  have hok : ScOk side l → Ev (fun k => impl_Unscanned.j0 k side l false) (unscv side l, true) := fun h => by
    have hlen : l.length ≤ 64 := by rcases h with ⟨_, e⟩ | ⟨_, e⟩ <;> omega
    refine Ev.step (fun k => by simp only [impl_Unscanned.j0, Bool.false_eq_true, if_false]; rw [if_pos (by omega), if_pos (by simp; omega), Int.toNat_natCast]) (Ev.bind (order_ev (scok_side h)) ?_)
    exact unscanned_loop (scok_side h) 0 (by omega) _ (by simp)
  by_cases c4 : side = 4
  · subst c4
    rw [wrap_id (x := 4 * 4) (by omega) (by omega)]
    by_cases c : l.length = 16
    · rw [if_pos (.inl ⟨rfl, c⟩)]
      simp only [if_true, c, show (((16 : Nat) : Int) != 4 * 4) = false from by decide]
      exact hok (.inl ⟨rfl, c⟩)
    · rw [if_neg (by rintro (⟨_, h⟩ | ⟨h, _⟩); exact c h; exact absurd h (by decide))]
      simp only [if_true, show ((l.length : Int) != 4 * 4) = true from by rw [bne_iff_ne]; omega]
      exact hbad
  · by_cases c8 : side = 8
    · subst c8
      simp only [if_neg c4]
      rw [wrap_id (x := 8 * 8) (by omega) (by omega)]
      by_cases c : l.length = 64
      · rw [if_pos (.inr ⟨rfl, c⟩)]
        simp only [if_true, c, show (((64 : Nat) : Int) != 8 * 8) = false from by decide]
        exact hok (.inr ⟨rfl, c⟩)
      · rw [if_neg (by rintro (⟨h, _⟩ | ⟨_, h⟩); exact absurd h (by decide); exact c h)]
        simp only [if_true, show ((l.length : Int) != 8 * 8) = true from by rw [bne_iff_ne]; omega]
        exact hbad
    · rw [if_neg (by rintro (⟨h, _⟩ | ⟨h, _⟩); exact c4 h; exact c8 h)]
      simp only [if_neg c4, if_neg c8]
      exact hbad
theorem sunscanned_loop {side : Int} {l : List Int} (h : SideN side l.length) : ∀ i, i ≤ l.length → ∀ out : List Int, out.length = l.length → Ev (fun k => spec_Unscanned.l0 k side l out (i : Int)) (unsc side l (l.length - i) i out, true) := by
  have hn := ord_len h
  have hlen : l.length ≤ 64 := by rcases h with ⟨_, e⟩ | ⟨_, e⟩ <;> omega
  have hsq : wrap64 (side * side) = (l.length : Int) := by rcases h with ⟨rfl, e⟩ | ⟨rfl, e⟩ <;> rw [e] <;> decide +kernel
  refine down l.length ?_ ?_
  · intro out _
    rw [Nat.sub_self]
    refine Ev.step (f := fun _ => some (out, true)) (fun k => ?_) (Ev.now _)
    simp only [spec_Unscanned.l0]
    rw [hsq, if_neg (by omega)]
  · intro i hi hh out ho
    have e1 : l.length - i = (l.length - (i + 1)) + 1 := by omega
    rw [e1]
    have hb : 0 ≤ rd (ordOf side) (i : Int) ∧ rd (ordOf side) (i : Int) < (l.length : Int) := by
      rw [rd_nat _ i (by omega)]; exact ord_in h _ (List.getElem_mem (by omega))
    refine Ev.step (fun k => by simp only [spec_Unscanned.l0]; rw [hsq, if_pos (by omega)]) (Ev.bind (sat_ev h i hi) ?_)
    refine Ev.congr (fun k => ?_) (hh (out.set (rd (ordOf side) (i : Int)).toNat (rd l (i : Int))) (by simpa using ho))
    rw [if_pos (by omega), if_pos (by omega), if_pos hb.1, if_pos (by omega), wrap_id (by omega) (by omega), cast1]
theorem sunscanned_ev (side : Int) (l : List Int) : Ev (fun k => spec_Unscanned.f k side l) (if ScOk side l then (unscv side l, true) else ([], false)) := by
  unfold spec_Unscanned.f
  have hbad : Ev (fun k => spec_Unscanned.j0 k side l true) ([], false) := Ev.step (f := fun _ => some ([], false)) (fun k => by simp only [spec_Unscanned.j0]; rfl) (Ev.now _)
  have hok : ScOk side l → Ev (fun k => spec_Unscanned.j0 k side l false) (unscv side l, true) := fun h => by
    have hlen : l.length ≤ 64 := by rcases h with ⟨_, e⟩ | ⟨_, e⟩ <;> omega
    refine Ev.step (fun k => by simp only [spec_Unscanned.j0, Bool.false_eq_true, if_false]; rw [if_pos (by omega), if_pos (by simp; omega), Int.toNat_natCast]) ?_
    exact sunscanned_loop (scok_side h) 0 (by omega) _ (by simp)
  by_cases c4 : side = 4
  · subst c4
    rw [wrap_id (x := 4 * 4) (by omega) (by omega)]
    by_cases c : l.length = 16
    · rw [if_pos (.inl ⟨rfl, c⟩)]
      simp only [if_true, c, show (((16 : Nat) : Int) != 4 * 4) = false from by decide]
      exact hok (.inl ⟨rfl, c⟩)
    · rw [if_neg (by rintro (⟨_, h⟩ | ⟨h, _⟩); exact c h; exact absurd h (by decide))]
      simp only [if_true, show ((l.length : Int) != 4 * 4) = true from by rw [bne_iff_ne]; omega]
      exact hbad
  · by_cases c8 : side = 8
    · subst c8
      simp only [if_neg c4]
      rw [wrap_id (x := 8 * 8) (by omega) (by omega)]
      by_cases c : l.length = 64
      · rw [if_pos (.inr ⟨rfl, c⟩)]
        simp only [if_true, c, show (((64 : Nat) : Int) != 8 * 8) = false from by decide]
        exact hok (.inr ⟨rfl, c⟩)
      · rw [if_neg (by rintro (⟨h, _⟩ | ⟨_, h⟩); exact absurd h (by decide); exact c h)]
        simp only [if_true, show ((l.length : Int) != 8 * 8) = true from by rw [bne_iff_ne]; omega]
        exact hbad
    · rw [if_neg (by rintro (⟨h, _⟩ | ⟨h, _⟩); exact c4 h; exact c8 h)]
      simp only [if_neg c4, if_neg c8]
      exact hbad
theorem unsc_out_len (side : Int) (l : List Int) : (if ScOk side l then (unscv side l, true) else (([] : List Int), false)).1.length ≤ 64 := by
  by_cases h : ScOk side l
  · rw [if_pos h]
    have := unscv_len side l
    rcases h with ⟨_, e⟩ | ⟨_, e⟩ <;> simp only [] <;> omega
  · rw [if_neg h]; simp

/-- The numbers a, a + 1, .., n of them. -/
def marks : Nat → Int → List Int
  | 0, _ => []
  | n + 1, a => a :: marks n (a + 1)
theorem marks_length (n : Nat) : ∀ a, (marks n a).length = n := by
  induction n with
  | zero => intro a; rfl
  | succ n ih => intro a; simp [marks, ih]
theorem marks_get (n : Nat) : ∀ (a : Int) (i : Nat) (h : i < (marks n a).length), (marks n a)[i] = a + i := by
  induction n with
  | zero => intro a i h; simp [marks] at h
  | succ n ih =>
    intro a i h
    cases i with
    | zero => simp [marks]
    | succ i =>
      have := ih (a + 1) i (by simp [marks] at h; exact h)
      simp only [marks, List.getElem_cons_succ]
      rw [this]
      have e : ((i + 1 : Nat) : Int) = (i : Int) + 1 := rfl
      rw [e]; omega
theorem mark_ev (l : List Int) (a : Int) (hl : l.length ≤ 17592186043904) (h0 : 0 ≤ a) (h1 : a ≤ 1000000000000) : Ev (fun k => laws_markIntS.f k l a) (a + (l.length : Int), marks l.length a) := by
  have hm := marks_length l.length a
  have H : ∀ i, i ≤ l.length → Ev (fun k => laws_markIntS.l0 k ((marks l.length a).take i ++ l.drop i) (a + (i : Int)) (i : Int)) (a + (l.length : Int), marks l.length a) := by
    refine down l.length ?_ ?_
    · refine Ev.step (f := fun _ => some (a + (l.length : Int), marks l.length a)) (fun k => ?_) (Ev.now _)
      have e := mix_end (marks l.length a) l hm
      rw [hm] at e
      simp only [laws_markIntS.l0]
      rw [e, if_neg (by rw [hm]; omega)]
    · intro i hi h
      refine Ev.step (fun k => ?_) h
      have e := mix_set (marks l.length a) l i (by omega) hi
      rw [marks_get] at e
      simp only [laws_markIntS.l0]
      rw [if_pos (by rw [mix_length _ _ _ hm (by omega)]; omega), if_pos (by omega), Int.toNat_natCast, e, wrap_id (x := a + (i : Int) + 1) (by omega) (by omega), wrap_id (x := (i : Int) + 1) (by omega) (by omega), Int.add_assoc, cast1]
  have h := H 0 (by omega)
  rw [mix_zero] at h
  simpa [laws_markIntS.f] using h
theorem held_ev (n : Nat) (a : Int) (hl : n ≤ 17592186043904) (h0 : 0 ≤ a) (h1 : a ≤ 1000000000000) : Ev (fun k => laws_heldIntS.f k (marks n a) a) (a + (n : Int)) := by
  have hm := marks_length n a
  have H : ∀ i, i ≤ n → Ev (fun k => laws_heldIntS.l0 k (marks n a) (a + (i : Int)) (i : Int)) (a + (n : Int)) := by
    refine down n ?_ ?_
    · refine Ev.step (f := fun _ => some (a + (n : Int))) (fun k => ?_) (Ev.now _)
      simp only [laws_heldIntS.l0]
      rw [hm, if_neg (by omega)]
    · intro i hi h
      refine Ev.step (fun k => ?_) h
      simp only [laws_heldIntS.l0]
      rw [if_pos (by omega), if_pos (by omega), rd_nat _ i (by omega), marks_get, if_pos rfl, wrap_id (x := a + (i : Int) + 1) (by omega) (by omega), wrap_id (x := (i : Int) + 1) (by omega) (by omega), Int.add_assoc, cast1]
  have h := H 0 (by omega)
  simpa [laws_heldIntS.f] using h
theorem eqSelf_ev (a : List Int) (ha : a.length ≤ 17592186043904) : Ev (fun k => laws_eqIntS.f k a a) true := by
  have h := eqInts_ev a a ha
  rwa [decide_eq_true rfl] at h

theorem FnExactUnscanned : laws_FnExactUnscanned.Pure := by
  intro side l _ _ hl _
  refine Ev.rounds ?_
  unfold laws_FnExactUnscanned.f
  by_cases c : (l.length : Int) > 1048576
  · simp only [c, if_true]; exact Ev.now _
  · simp only [c, if_false]
    have hT := toInts_ev l (by omega)
    have hS := sunscanned_ev side l
    have hI := unscanned_ev side l
    have hlen := unsc_out_len side l
    generalize (if ScOk side l then (unscv side l, true) else ([], false)) = r at hS hI hlen
    have hE := eqSelf_ev r.1 (by omega)
    have hEl := eqSelf_ev l (by omega)
    have hM := mark_ev l 1 (by omega) (by omega) (by omega)
    have hMr := mark_ev r.1 1 (by omega) (by omega) (by omega)
    have hH := held_ev r.1.length 1 (by omega) (by omega) (by omega)
    have n1 : ¬ (1 + (l.length : Int) < 0) := by omega
    have n2 : ¬ (1 + (r.1.length : Int) < 0) := by omega
    repeat' (first
      | exact Ev.now _
      | (refine Ev.bind (by assumption) ?_)
      | (simp only [if_true, if_false, bne_self_eq_false, Bool.false_eq_true, n1, n2])
      | (refine Ev.step (fun k => by simp only [laws_FnExactUnscanned.j0, laws_FnExactUnscanned.j1, laws_FnExactUnscanned.j2]; rfl) ?_))

end Go.Proofs.Ytokaccgaendhmaa.Pure
