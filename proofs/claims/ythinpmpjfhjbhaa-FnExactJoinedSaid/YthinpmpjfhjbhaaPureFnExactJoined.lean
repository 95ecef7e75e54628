/- The program's Joined answers what the reference's Joined answers, for all pairs of lists, in new memory, and leaves its arguments as they were. No condition beside the row's own. -/
import Derived.Test.YthinpmpjfhjbhaaQFnExactJoinedx3
namespace Go.Proofs.Ythinpmpjfhjbhaa.Pure
open Go.RowKit Go.Proofs.Ythinpmpjfhjbhaa.QFnExactJoined Go.Proofs.YthinpmpjfhjbhaaW.PrintWords Go.Proofs.YthinpmpjfhjbhaaW.PrintLast Go.Proofs.YthinpmpjfhjbhaaW.PrintMore
set_option linter.unusedVariables false
set_option linter.unusedSimpArgs false

theorem wrap_id {x : Int} (h0 : -9223372036854775808 ≤ x) (h1 : x ≤ 9223372036854775807) : wrap64 x = x := by
  unfold wrap64
  omega
theorem wf64 {n : Int} (h : (Lit.int .i64 n).wf = true) : -9223372036854775808 ≤ n ∧ n ≤ 9223372036854775807 := by
  simp [Lit.wf, IntKind.min, IntKind.max, IntKind.signed, IntKind.bits] at h
  omega
theorem wfu8 {n : Int} (h : (Lit.int .u8 n).wf = true) : 0 ≤ n ∧ n ≤ 255 := by
  simp [Lit.wf, IntKind.min, IntKind.max, IntKind.signed, IntKind.bits] at h
  omega
theorem within_eq (a b c : Int) : impl_within.f a b c = some (decide (b ≤ a ∧ a ≤ c)) := by
  unfold impl_within.f
  by_cases h : a ≥ b
  · rw [if_pos h]; congr 1; rw [decide_eq_decide]; omega
  · rw [if_neg h]; congr 1; symm; rw [decide_eq_false_iff_not]; omega
theorem in_eq (a b c : Int) : spec_l01In.f a b c = some (decide (b ≤ a ∧ a ≤ c)) := by
  unfold spec_l01In.f
  by_cases h : a ≥ b
  · rw [if_pos h]; congr 1; rw [decide_eq_decide]; omega
  · rw [if_neg h]; congr 1; symm; rw [decide_eq_false_iff_not]; omega

theorem down {P : Nat → Prop} (n : Nat) (h0 : P n) (hs : ∀ i, i < n → P (i + 1) → P i) : ∀ i, i ≤ n → P i := by
  intro i hi
  obtain ⟨d, hd⟩ : ∃ d, d = n - i := ⟨_, rfl⟩
  induction d generalizing i with
  | zero => have : i = n := by omega
            subst this; exact h0
  | succ d ih => exact hs i (by omega) (ih (i + 1) (by omega) (by omega))
theorem rd_nat (l : List Int) (i : Nat) (h : i < l.length) : rd l (i : Int) = l[i] := by
  unfold rd
  rw [List.getD_eq_getElem?_getD, Int.toNat_natCast, List.getElem?_eq_getElem h]; rfl
theorem cast1 (i : Nat) : ((i : Nat) : Int) + 1 = ((i + 1 : Nat) : Int) := rfl
theorem mix_set {α : Type} (l z : List α) (i : Nat) (hi : i < l.length) (hz : i < z.length) : (l.take i ++ z.drop i).set i l[i] = l.take (i + 1) ++ z.drop (i + 1) := by
  rw [List.set_append_right _ _ (by simp; omega)]
  rw [show i - (l.take i).length = 0 by simp; omega]
  rw [List.drop_eq_getElem_cons hz, List.set_cons_zero, List.take_succ_eq_append_getElem hi, List.append_assoc]; rfl
theorem mix_length {α : Type} (l z : List α) (i : Nat) (h : l.length = z.length) (hi : i ≤ l.length) : (l.take i ++ z.drop i).length = l.length := by
  simp; omega
theorem mix_end {α : Type} (l z : List α) (h : l.length = z.length) : l.take l.length ++ z.drop l.length = l := by
  rw [List.take_length, h, List.drop_length, List.append_nil]
theorem mix_zero {α : Type} (l z : List α) : l.take 0 ++ z.drop 0 = z := by simp
theorem drop_cons {α : Type} {l : List α} {i : Nat} (h : i < l.length) : l.drop i = l[i] :: l.drop (i + 1) := List.drop_eq_getElem_cons h
theorem toInts_ev (l : List Int) (hl : l.length ≤ 17592186043904) : Ev (fun k => laws_toIntS.f k l) l := by
  have H : ∀ i, i ≤ l.length → Ev (fun k => laws_toIntS.l0 k l (l.take i ++ (List.replicate l.length (0 : Int)).drop i) (i : Int)) l := by
    refine down l.length ?_ ?_
    · refine Ev.step (f := fun _ => some l) (fun k => ?_) (Ev.now _)
      simp only [laws_toIntS.l0]
      rw [if_neg (by omega), mix_end _ _ (by simp)]
    · intro i hi h
      refine Ev.step (fun k => ?_) h
      simp only [laws_toIntS.l0]
      rw [if_pos (by omega), if_pos (by omega), if_pos (by rw [mix_length _ _ _ (by simp) (by omega)]; omega), rd_nat l i hi, Int.toNat_natCast, mix_set _ _ _ hi (by simp; exact hi), wrap_id (by omega) (by omega), cast1]
  have h0 := H 0 (by omega)
  rw [mix_zero] at h0
  unfold laws_toIntS.f
  refine Ev.congr (fun k => ?_) h0
  rw [if_pos (by omega), if_pos (by simp; omega), Int.toNat_natCast]; rfl
theorem eqInts_ev (a b : List Int) (ha : a.length ≤ 17592186043904) : Ev (fun k => laws_eqIntS.f k a b) (decide (a = b)) := by
  by_cases hl : a.length = b.length
  · have H : ∀ i, i ≤ a.length → Ev (fun k => laws_eqIntS.l0 k a b (i : Int)) (decide (a.drop i = b.drop i)) := by
      refine down a.length ?_ ?_
      · refine Ev.step (f := fun _ => some true) (fun k => ?_) ?_
        · simp only [laws_eqIntS.l0]
          rw [if_neg (by omega)]
        · rw [show decide (a.drop a.length = b.drop a.length) = true by rw [hl]; simp [← hl]]; exact Ev.now _
      · intro i hi h
        have hb : i < b.length := by omega
        by_cases c : a[i] = b[i]
        · have e : decide (a.drop i = b.drop i) = decide (a.drop (i + 1) = b.drop (i + 1)) := by
            rw [decide_eq_decide, drop_cons hi, drop_cons hb, c, List.cons.injEq]; simp only [true_and]
          rw [e]
          refine Ev.step (fun k => ?_) h
          simp only [laws_eqIntS.l0]
          rw [if_pos (by omega), if_pos (by omega), if_pos (by omega), rd_nat a i hi, rd_nat b i hb, if_pos c, wrap_id (by omega) (by omega), cast1]
        · have e : decide (a.drop i = b.drop i) = false := by
            rw [decide_eq_false_iff_not, drop_cons hi, drop_cons hb, List.cons.injEq]; exact fun h => c h.1
          rw [e]
          refine Ev.step (f := fun _ => some false) (fun k => ?_) (Ev.now _)
          simp only [laws_eqIntS.l0]
          rw [if_pos (by omega), if_pos (by omega), if_pos (by omega), rd_nat a i hi, rd_nat b i hb, if_neg c]
    have h0 := H 0 (by omega)
    unfold laws_eqIntS.f
    refine Ev.congr (fun k => ?_) h0
    rw [if_pos (by omega)]; rfl
  · unfold laws_eqIntS.f
    rw [show decide (a = b) = false from decide_eq_false (fun h => hl (by rw [h]))]
    refine Ev.congr (f := fun _ => some false) (fun k => ?_) (Ev.now _)
    rw [if_neg (by omega)]
/-- All numbers of a list are from lo to hi. -/
def allB (lo hi : Int) (l : List Int) : Bool := l.all fun x => decide (lo ≤ x ∧ x ≤ hi)
theorem allB_cons (lo hi x : Int) (l : List Int) : allB lo hi (x :: l) = (decide (lo ≤ x ∧ x ≤ hi) && allB lo hi l) := rfl
theorem allB_iff {lo hi : Int} {l : List Int} : allB lo hi l = true ↔ ∀ x ∈ l, lo ≤ x ∧ x ≤ hi := by
  unfold allB
  rw [List.all_eq_true]
  simp only [decide_eq_true_eq]
theorem areIn_ev (l : List Int) (n lo hi : Int) (hl : l.length ≤ 17592186043904) : Ev (fun k => impl_areIn.f k l n lo hi) (decide ((l.length : Int) = n) && allB lo hi l) := by
  have H : ∀ i, i ≤ l.length → Ev (fun k => impl_areIn.l0 k l n lo hi l (l.length : Int) (i : Int)) (decide ((l.length : Int) = n) && allB lo hi (l.drop i)) := by
    refine down l.length ?_ ?_
    · refine Ev.step (f := fun _ => some (decide ((l.length : Int) = n))) (fun k => ?_) ?_
      · simp only [impl_areIn.l0]
        rw [if_neg (by omega)]; congr 1
      · rw [List.drop_length]; simp only [allB, List.all_nil, Bool.and_true]; exact Ev.now _
    · intro i h1 h
      rw [drop_cons h1, allB_cons]
      by_cases c : lo ≤ l[i] ∧ l[i] ≤ hi
      · rw [decide_eq_true c, Bool.true_and]
        refine Ev.step (fun k => ?_) h
        simp only [impl_areIn.l0]
        rw [if_pos (by omega), if_pos (by omega), if_pos (by omega), rd_nat l i h1, within_eq, Option.bind_some, if_pos (decide_eq_true c), wrap_id (by omega) (by omega), cast1]
      · rw [decide_eq_false c, Bool.false_and, Bool.and_false]
        refine Ev.step (f := fun _ => some false) (fun k => ?_) (Ev.now _)
        simp only [impl_areIn.l0]
        rw [if_pos (by omega), if_pos (by omega), if_pos (by omega), rd_nat l i h1, within_eq, Option.bind_some, if_neg (by simpa using c)]
  exact H 0 (by omega)
theorem all_ev (l : List Int) (n m : Int) (hl : l.length ≤ 17592186043904) (hm : 0 ≤ m) (hm' : m ≤ 1000000000) : Ev (fun k => spec_l09All.f k l n m) (decide ((l.length : Int) = n) && allB (-m) m l) := by
  unfold spec_l09All.f
  by_cases hn : (l.length : Int) = n
  · subst hn
    have H : ∀ i, i ≤ l.length → Ev (fun k => spec_l09All.l0 k l (l.length : Int) m (i : Int)) (allB (-m) m (l.drop i)) := by
      refine down l.length ?_ ?_
      · refine Ev.step (f := fun _ => some true) (fun k => ?_) ?_
        · simp only [spec_l09All.l0]
          rw [if_neg (by omega)]
        · rw [List.drop_length]; exact Ev.now _
      · intro i h1 h
        rw [drop_cons h1, allB_cons]
        by_cases c : -m ≤ l[i] ∧ l[i] ≤ m
        · rw [decide_eq_true c, Bool.true_and]
          refine Ev.step (fun k => ?_) h
          simp only [spec_l09All.l0]
          rw [if_pos (by omega), if_pos (by omega), if_pos (by omega), rd_nat l i h1, wrap_id (x := -m) (by omega) (by omega), in_eq, Option.bind_some, if_pos (decide_eq_true c), wrap_id (by omega) (by omega), cast1]
        · rw [decide_eq_false c, Bool.false_and]
          refine Ev.step (f := fun _ => some false) (fun k => ?_) (Ev.now _)
          simp only [spec_l09All.l0]
          rw [if_pos (by omega), if_pos (by omega), if_pos (by omega), rd_nat l i h1, wrap_id (x := -m) (by omega) (by omega), in_eq, Option.bind_some, if_neg (by simpa using c)]
    refine Ev.congr (fun k => by rw [if_pos rfl]) ?_
    rw [decide_eq_true rfl, Bool.true_and]
    exact H 0 (by omega)
  · rw [decide_eq_false hn, Bool.false_and]
    exact Ev.congr (f := fun _ => some false) (fun k => by rw [if_neg hn]) (Ev.now _)

/-- Guess and difference, joined. -/
def joinv (g d : List Int) : List Int := List.zipWith (fun a b => mx 0 (mn (a + b) 255)) g d
def JOk (g d : List Int) : Prop := (g.length = 64 ∧ allB 0 255 g = true) ∧ (d.length = 64 ∧ allB (-10000000) 10000000 d = true)
instance (g d : List Int) : Decidable (JOk g d) := by unfold JOk; infer_instance
theorem joinv_len {g d : List Int} (h : JOk g d) : (joinv g d).length = 64 := by
  unfold joinv; rw [List.length_zipWith, h.1.1, h.2.1]; rfl
theorem joinv_get (g d : List Int) (i : Nat) (h : i < (joinv g d).length) (hg : i < g.length) (hd : i < d.length) : (joinv g d)[i] = mx 0 (mn (g[i] + d[i]) 255) := by
  simp only [joinv, List.getElem_zipWith]
theorem len_decj (l : List Int) (n : Nat) (m : Int) (h : m = (n : Int)) : decide ((l.length : Int) = m) = decide (l.length = n) := by rw [decide_eq_decide]; omega
theorem and_false' {a b : Bool} {p : Prop} [Decidable p] (ha : a = decide p) (h : ¬ (p ∧ b = true)) : (a && b) = false := by
  subst ha
  rw [Bool.eq_false_iff]; intro h'; rw [Bool.and_eq_true, decide_eq_true_eq] at h'; exact h h'
theorem join_loop (g d : List Int) (h : JOk g d) : ∀ i : Nat, i ≤ 64 → Ev (fun k => impl_Joined.l0 k d ((joinv g d).take i) g 64 (i : Int)) (joinv g d) := by
  have hj := joinv_len h
  obtain ⟨⟨hg, bg⟩, hd, bd⟩ := h
  refine down 64 ?_ ?_
  · refine Ev.step (f := fun _ => some (joinv g d)) (fun k => ?_) (Ev.now _)
    simp only [impl_Joined.l0]
    rw [if_neg (by omega), List.take_of_length_le (by omega)]
  · intro i hi hh
    refine Ev.step (fun k => ?_) hh
    have r1 := allB_iff.1 bg _ (List.getElem_mem (show i < g.length by omega))
    have r2 := allB_iff.1 bd _ (List.getElem_mem (show i < d.length by omega))
    have e := joinv_get g d i (by omega) (by omega) (by omega)
    simp only [impl_Joined.l0, impl_Brought.f, Option.bind_some]
    rw [if_pos (by omega), if_pos (by omega), if_pos (by omega), if_pos (by omega), if_pos (by simp; omega), rd_nat g i (by omega), rd_nat d i (by omega), wrap_id (x := g[i] + d[i]) (by omega) (by omega), ← e, ← List.take_succ_eq_append_getElem (by omega), wrap_id (x := (i : Int) + 1) (by omega) (by omega), cast1]
theorem joined_ev (g d : List Int) (hg : g.length ≤ 17592186043904) (hd : d.length ≤ 17592186043904) : Ev (fun k => impl_Joined.f k g d) (if JOk g d then joinv g d else []) := by
  unfold impl_Joined.f
  simp only [Option.bind_some]
  have hbad : Ev (fun k => impl_Joined.j0 k g d [] true) [] := Ev.step (f := fun _ => some []) (fun k => by simp only [impl_Joined.j0]; rfl) (Ev.now _)
  refine Ev.bind (areIn_ev g 64 0 255 hg) ?_
  rw [len_decj g 64 64 rfl]
  by_cases c1 : g.length = 64 ∧ allB 0 255 g = true
  · rw [decide_eq_true c1.1, c1.2]
    simp only [Bool.and_self, if_true]
    refine Ev.bind (areIn_ev d 64 (-10000000) 10000000 hd) ?_
    rw [len_decj d 64 64 rfl]
    by_cases c2 : d.length = 64 ∧ allB (-10000000) 10000000 d = true
    · rw [if_pos ⟨c1, c2⟩, decide_eq_true c2.1, c2.2]
      simp only [Bool.and_self, Bool.not_true]
      refine Ev.step (fun k => by simp only [impl_Joined.j0, Bool.false_eq_true, if_false]; rfl) ?_
      rw [c1.1]
      exact join_loop g d ⟨c1, c2⟩ 0 (by omega)
    · rw [if_neg (fun h => c2 h.2), and_false' rfl c2]
      simp only [Bool.not_false]; exact hbad
  · rw [if_neg (fun h => c1 h.1), and_false' rfl c1]
    simp only [Bool.false_eq_true, if_false]; exact hbad

/-- What a right picture is. -/
def PicR (w h : Int) (d : ByteArray) : Prop := (1 ≤ w ∧ w ≤ 256) ∧ (1 ≤ h ∧ h ≤ 256) ∧ (d.size : Int) = w * h
instance (w h : Int) (d : ByteArray) : Decidable (PicR w h d) := by unfold PicR; infer_instance
theorem small_mul {w h a b : Int} (h0 : 0 ≤ w) (h1 : w ≤ a) (h2 : 0 ≤ h) (h3 : h ≤ b) : 0 ≤ w * h ∧ w * h ≤ a * b := by
  refine ⟨Int.mul_nonneg h0 h2, ?_⟩
  exact Int.mul_le_mul h1 h3 h2 (by omega)

theorem brought_ev (n lo hi : Int) : Ev (fun k => spec_Brought.f k n lo hi) (mx lo (mn n hi)) := by
  unfold spec_Brought.f
  unfold mx mn
  by_cases c : hi < lo
  · refine Ev.congr (fun k => by rw [if_pos c]) (Ev.step (f := fun _ => some lo) (fun k => by simp only [spec_Brought.j0]; rfl) ?_)
    have e : (if lo < (if hi < n then hi else n) then (if hi < n then hi else n) else lo) = lo := by repeat' split <;> omega
    rw [e]; exact Ev.now _
  · by_cases c2 : n < lo
    · refine Ev.congr (fun k => by rw [if_neg c, show decide (n < lo) = true from decide_eq_true c2]) (Ev.step (f := fun _ => some lo) (fun k => by simp only [spec_Brought.j0]; rfl) ?_)
      have e : (if lo < (if hi < n then hi else n) then (if hi < n then hi else n) else lo) = lo := by repeat' split <;> omega
      rw [e]; exact Ev.now _
    · refine Ev.congr (fun k => by rw [if_neg c, show decide (n < lo) = false from decide_eq_false c2]) (Ev.step (f := fun _ => if n > hi then some hi else some n) (fun k => by simp only [spec_Brought.j0]; rfl) ?_)
      by_cases c3 : n > hi
      · have e : (if lo < (if hi < n then hi else n) then (if hi < n then hi else n) else lo) = hi := by repeat' split <;> omega
        rw [e]; simp only [c3, if_true]; exact Ev.now _
      · have e : (if lo < (if hi < n then hi else n) then (if hi < n then hi else n) else lo) = n := by repeat' split <;> omega
        rw [e]; simp only [c3, if_false]; exact Ev.now _
theorem mx0 {n hi : Int} (h : 0 ≤ hi) : 0 ≤ mx 0 (mn n hi) ∧ mx 0 (mn n hi) ≤ hi := by unfold mx mn; repeat' split <;> omega
def dotv (w h : Int) (d : ByteArray) (x y : Int) : Int := bt d (mx 0 (mn y (h - 1)) * w + mx 0 (mn x (w - 1)))
theorem spot {w h X Y : Int} (hw : 1 ≤ w) (hX : 0 ≤ X ∧ X ≤ w - 1) (hY : 0 ≤ Y ∧ Y ≤ h - 1) : 0 ≤ Y * w ∧ 0 ≤ Y * w + X ∧ Y * w + X < w * h := by
  have h1 : 0 ≤ Y * w := Int.mul_nonneg hY.1 (by omega)
  have h2 : Y * w ≤ (h - 1) * w := Int.mul_le_mul_of_nonneg_right hY.2 (by omega)
  have h3 : (h - 1) * w = w * h - w := by rw [Int.sub_mul, Int.one_mul, Int.mul_comm]
  omega
theorem dotv_range (w h : Int) (d : ByteArray) (x y : Int) : 0 ≤ dotv w h d x y ∧ dotv w h d x y ≤ 255 := bt_range _ _

/-- The numbers a, a + 1, .., n of them. -/
def marks : Nat → Int → List Int
  | 0, _ => []
  | n + 1, a => a :: marks n (a + 1)
theorem marks_length (n : Nat) : ∀ a, (marks n a).length = n := by
  induction n with
  | zero => intro a; rfl
  | succ n ih => intro a; simp [marks, ih]
theorem marks_get (n : Nat) : ∀ (a : Int) (i : Nat) (h : i < (marks n a).length), (marks n a)[i] = a + i := by
  induction n with
  | zero => intro a i h; simp [marks] at h
  | succ n ih =>
    intro a i h
    cases i with
    | zero => simp [marks]
    | succ i =>
      have := ih (a + 1) i (by simp [marks] at h; exact h)
      simp only [marks, List.getElem_cons_succ]
      rw [this]
      have e : ((i + 1 : Nat) : Int) = (i : Int) + 1 := rfl
      rw [e]; omega
theorem mark_ev (l : List Int) (a : Int) (hl : l.length ≤ 17592186043904) (h0 : 0 ≤ a) (h1 : a ≤ 1000000000000) : Ev (fun k => laws_markIntS.f k l a) (a + (l.length : Int), marks l.length a) := by
  have hm := marks_length l.length a
  have H : ∀ i, i ≤ l.length → Ev (fun k => laws_markIntS.l0 k ((marks l.length a).take i ++ l.drop i) (a + (i : Int)) (i : Int)) (a + (l.length : Int), marks l.length a) := by
    refine down l.length ?_ ?_
    · refine Ev.step (f := fun _ => some (a + (l.length : Int), marks l.length a)) (fun k => ?_) (Ev.now _)
      have e := mix_end (marks l.length a) l hm
      rw [hm] at e
      simp only [laws_markIntS.l0]
      rw [e, if_neg (by rw [hm]; omega)]
    · intro i hi h
      refine Ev.step (fun k => ?_) h
      have e := mix_set (marks l.length a) l i (by omega) hi
      rw [marks_get] at e
      simp only [laws_markIntS.l0]
      rw [if_pos (by rw [mix_length _ _ _ hm (by omega)]; omega), if_pos (by omega), Int.toNat_natCast, e, wrap_id (x := a + (i : Int) + 1) (by omega) (by omega), wrap_id (x := (i : Int) + 1) (by omega) (by omega), Int.add_assoc, cast1]
  have h := H 0 (by omega)
  rw [mix_zero] at h
  simpa [laws_markIntS.f] using h
theorem held_ev (n : Nat) (a : Int) (hl : n ≤ 17592186043904) (h0 : 0 ≤ a) (h1 : a ≤ 1000000000000) : Ev (fun k => laws_heldIntS.f k (marks n a) a) (a + (n : Int)) := by
  have hm := marks_length n a
  have H : ∀ i, i ≤ n → Ev (fun k => laws_heldIntS.l0 k (marks n a) (a + (i : Int)) (i : Int)) (a + (n : Int)) := by
    refine down n ?_ ?_
    · refine Ev.step (f := fun _ => some (a + (n : Int))) (fun k => ?_) (Ev.now _)
      simp only [laws_heldIntS.l0]
      rw [hm, if_neg (by omega)]
    · intro i hi h
      refine Ev.step (fun k => ?_) h
      simp only [laws_heldIntS.l0]
      rw [if_pos (by omega), if_pos (by omega), rd_nat _ i (by omega), marks_get, if_pos rfl, wrap_id (x := a + (i : Int) + 1) (by omega) (by omega), wrap_id (x := (i : Int) + 1) (by omega) (by omega), Int.add_assoc, cast1]
  have h := H 0 (by omega)
  simpa [laws_heldIntS.f] using h
theorem eqSelf_ev (a : List Int) (ha : a.length ≤ 17592186043904) : Ev (fun k => laws_eqIntS.f k a a) true := by
  have h := eqInts_ev a a ha
  rwa [decide_eq_true rfl] at h

theorem sdots_ev (l : List Int) (hl : l.length ≤ 17592186043904) : Ev (fun k => spec_l13Dots.f k l) (decide (l.length = 64) && allB 0 255 l) := by
  unfold spec_l13Dots.f
  by_cases hn : l.length = 64
  · have H : ∀ i : Nat, i ≤ 64 → Ev (fun k => spec_l13Dots.l0 k l (i : Int)) (allB 0 255 (l.drop i)) := by
      refine down 64 ?_ ?_
      · refine Ev.step (f := fun _ => some true) (fun k => ?_) ?_
        · simp only [spec_l13Dots.l0]
          rw [if_neg (by omega)]
        · rw [← hn, List.drop_length]; exact Ev.now _
      · intro i h1 h
        have h2 : i < l.length := by omega
        rw [drop_cons h2, allB_cons]
        by_cases c : 0 ≤ l[i] ∧ l[i] ≤ 255
        · rw [decide_eq_true c, Bool.true_and]
          refine Ev.step (fun k => ?_) h
          simp only [spec_l13Dots.l0]
          rw [if_pos (by omega), if_pos (by omega), if_pos (by omega), rd_nat l i h2, in_eq, Option.bind_some, if_pos (decide_eq_true c), wrap_id (by omega) (by omega), cast1]
        · rw [decide_eq_false c, Bool.false_and]
          refine Ev.step (f := fun _ => some false) (fun k => ?_) (Ev.now _)
          simp only [spec_l13Dots.l0]
          rw [if_pos (by omega), if_pos (by omega), if_pos (by omega), rd_nat l i h2, in_eq, Option.bind_some, if_neg (by simpa using c)]
    refine Ev.congr (fun k => by rw [if_pos (by omega)]) ?_
    rw [decide_eq_true hn, Bool.true_and]
    exact H 0 (by omega)
  · rw [decide_eq_false hn, Bool.false_and]
    exact Ev.congr (f := fun _ => some false) (fun k => by rw [if_neg (by omega)]) (Ev.now _)
theorem sjoin_loop (g d : List Int) (h : JOk g d) : ∀ i : Nat, i ≤ 64 → Ev (fun k => spec_Joined.l0 k g d ((joinv g d).take i) (i : Int)) (joinv g d) := by
  have hj := joinv_len h
  obtain ⟨⟨hg, bg⟩, hd, bd⟩ := h
  refine down 64 ?_ ?_
  · refine Ev.step (f := fun _ => some (joinv g d)) (fun k => ?_) (Ev.now _)
    simp only [spec_Joined.l0]
    rw [if_neg (by omega), List.take_of_length_le (by omega)]
  · intro i hi hh
    have r1 := allB_iff.1 bg _ (List.getElem_mem (show i < g.length by omega))
    have r2 := allB_iff.1 bd _ (List.getElem_mem (show i < d.length by omega))
    have e := joinv_get g d i (by omega) (by omega) (by omega)
    have hb := brought_ev (g[i] + d[i]) 0 255
    rw [← e] at hb
    refine Ev.step (f := fun k => (spec_Brought.f k (g[i] + d[i]) 0 255).bind fun t => (if ((joinv g d).take i).length < 17592186044416 then (spec_Joined.l0 k g d ((joinv g d).take i ++ [t]) ((i + 1 : Nat) : Int)) else (none))) (fun k => ?_) (Ev.bind hb ?_)
    · simp only [spec_Joined.l0]
      rw [if_pos (by omega), if_pos (by omega), if_pos (by omega), if_pos (by omega), rd_nat g i (by omega), rd_nat d i (by omega), wrap_id (x := g[i] + d[i]) (by omega) (by omega), wrap_id (x := (i : Int) + 1) (by omega) (by omega), cast1]
    · refine Ev.congr (fun k => ?_) hh
      rw [if_pos (by simp; omega), ← List.take_succ_eq_append_getElem (by omega)]
theorem sjoined_ev (g d : List Int) (hg : g.length ≤ 17592186043904) (hd : d.length ≤ 17592186043904) : Ev (fun k => spec_Joined.f k g d) (if JOk g d then joinv g d else []) := by
  unfold spec_Joined.f
  simp only [Option.bind_some]
  have hbad : Ev (fun k => spec_Joined.j0 k g d [] true) [] := Ev.step (f := fun _ => some []) (fun k => by simp only [spec_Joined.j0]; rfl) (Ev.now _)
  refine Ev.bind (sdots_ev g hg) ?_
  by_cases c1 : g.length = 64 ∧ allB 0 255 g = true
  · rw [decide_eq_true c1.1, c1.2]
    simp only [Bool.and_self, if_true]
    refine Ev.bind (all_ev d 64 10000000 hd (by omega) (by omega)) ?_
    rw [len_decj d 64 64 rfl]
    by_cases c2 : d.length = 64 ∧ allB (-10000000) 10000000 d = true
    · rw [if_pos ⟨c1, c2⟩, decide_eq_true c2.1, c2.2]
      simp only [Bool.and_self, Bool.not_true]
      exact Ev.step (fun k => by simp only [spec_Joined.j0, Bool.false_eq_true, if_false]; rfl) (sjoin_loop g d ⟨c1, c2⟩ 0 (by omega))
    · rw [if_neg (fun h => c2 h.2), and_false' rfl c2]
      simp only [Bool.not_false]; exact hbad
  · rw [if_neg (fun h => c1 h.1), and_false' rfl c1]
    simp only [Bool.false_eq_true, if_false]; exact hbad
theorem jout_len (g d : List Int) : (if JOk g d then joinv g d else []).length ≤ 64 := by
  by_cases c : JOk g d
  · rw [if_pos c, joinv_len c]; omega
  · rw [if_neg c]; simp

theorem FnExactJoined : laws_FnExactJoined.Pure := by
  intro g d _ hg _ _ hd _
  refine Ev.rounds ?_
  unfold laws_FnExactJoined.f
  by_cases c : (g.length : Int) > 1048576
  · simp only [c, if_true]; exact Ev.now _
  · by_cases c2 : (d.length : Int) > 1048576
    · simp only [c, c2, if_true, if_false]; exact Ev.now _
    · simp only [c, c2, if_false]
      have hTg := toInts_ev g (by omega)
      have hTd := toInts_ev d (by omega)
      have hS := sjoined_ev g d (by omega) (by omega)
      have hI := joined_ev g d (by omega) (by omega)
      have hlen := jout_len g d
      generalize (if JOk g d then joinv g d else []) = v at hS hI hlen
      have hE := eqSelf_ev v (by omega)
      have hEg := eqSelf_ev g (by omega)
      have hEd := eqSelf_ev d (by omega)
      have hMg := mark_ev g 1 (by omega) (by omega) (by omega)
      have hMd := mark_ev d (1 + (g.length : Int)) (by omega) (by omega) (by omega)
      have hM := mark_ev v 1 (by omega) (by omega) (by omega)
      have hH := held_ev v.length 1 (by omega) (by omega) (by omega)
      have n1 : ¬ (1 + (g.length : Int) + (d.length : Int) < 0) := by omega
      have n2 : ¬ (1 + (v.length : Int) < 0) := by omega
      repeat' (first
        | exact Ev.now _
        | (refine Ev.bind (by assumption) ?_)
        | (simp only [if_true, if_false, n1, n2, Bool.not_true, Bool.false_eq_true])
        | (refine Ev.step (fun k => by simp only [laws_FnExactJoined.j0]; rfl) ?_))

end Go.Proofs.Ythinpmpjfhjbhaa.Pure
