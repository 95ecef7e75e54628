/- For all codes: a guess of drawn edges is sixty-four dots, and where all edges are one dot, so is each guess of them. The only condition is the row's own bound of the code's length. -/
import Derived.Test.YtoenibjkjohbbaaQFnGuessesx5
namespace Go.Proofs.Ytoenibjkjohbbaa.Pure
open Go.RowKit Go.Proofs.Ytoenibjkjohbbaa.QFnGuesses Go.Proofs.YtoenibjkjohbbaaW.PrintWords Go.Proofs.YtoenibjkjohbbaaW.PrintLast Go.Proofs.YtoenibjkjohbbaaW.PrintMore
set_option linter.unusedVariables false
set_option linter.unusedSimpArgs false

theorem wrap_id {x : Int} (h0 : -9223372036854775808 ≤ x) (h1 : x ≤ 9223372036854775807) : wrap64 x = x := by
  unfold wrap64
  omega
theorem wf64 {n : Int} (h : (Lit.int .i64 n).wf = true) : -9223372036854775808 ≤ n ∧ n ≤ 9223372036854775807 := by
  simp [Lit.wf, IntKind.min, IntKind.max, IntKind.signed, IntKind.bits] at h
  omega
theorem wfu8 {n : Int} (h : (Lit.int .u8 n).wf = true) : 0 ≤ n ∧ n ≤ 255 := by
  simp [Lit.wf, IntKind.min, IntKind.max, IntKind.signed, IntKind.bits] at h
  omega
theorem within_eq (a b c : Int) : impl_within.f a b c = some (decide (b ≤ a ∧ a ≤ c)) := by
  unfold impl_within.f
  by_cases h : a ≥ b
  · rw [if_pos h]; congr 1; rw [decide_eq_decide]; omega
  · rw [if_neg h]; congr 1; symm; rw [decide_eq_false_iff_not]; omega
theorem in_eq (a b c : Int) : spec_l01In.f a b c = some (decide (b ≤ a ∧ a ≤ c)) := by
  unfold spec_l01In.f
  by_cases h : a ≥ b
  · rw [if_pos h]; congr 1; rw [decide_eq_decide]; omega
  · rw [if_neg h]; congr 1; symm; rw [decide_eq_false_iff_not]; omega

theorem down {P : Nat → Prop} (n : Nat) (h0 : P n) (hs : ∀ i, i < n → P (i + 1) → P i) : ∀ i, i ≤ n → P i := by
  intro i hi
  obtain ⟨d, hd⟩ : ∃ d, d = n - i := ⟨_, rfl⟩
  induction d generalizing i with
  | zero => have : i = n := by omega
            subst this; exact h0
  | succ d ih => exact hs i (by omega) (ih (i + 1) (by omega) (by omega))
theorem rd_nat (l : List Int) (i : Nat) (h : i < l.length) : rd l (i : Int) = l[i] := by
  unfold rd
  rw [List.getD_eq_getElem?_getD, Int.toNat_natCast, List.getElem?_eq_getElem h]; rfl
theorem cast1 (i : Nat) : ((i : Nat) : Int) + 1 = ((i + 1 : Nat) : Int) := rfl
theorem mix_set {α : Type} (l z : List α) (i : Nat) (hi : i < l.length) (hz : i < z.length) : (l.take i ++ z.drop i).set i l[i] = l.take (i + 1) ++ z.drop (i + 1) := by
  rw [List.set_append_right _ _ (by simp; omega)]
  rw [show i - (l.take i).length = 0 by simp; omega]
  rw [List.drop_eq_getElem_cons hz, List.set_cons_zero, List.take_succ_eq_append_getElem hi, List.append_assoc]; rfl
theorem mix_length {α : Type} (l z : List α) (i : Nat) (h : l.length = z.length) (hi : i ≤ l.length) : (l.take i ++ z.drop i).length = l.length := by
  simp; omega
theorem mix_end {α : Type} (l z : List α) (h : l.length = z.length) : l.take l.length ++ z.drop l.length = l := by
  rw [List.take_length, h, List.drop_length, List.append_nil]
theorem mix_zero {α : Type} (l z : List α) : l.take 0 ++ z.drop 0 = z := by simp
theorem drop_cons {α : Type} {l : List α} {i : Nat} (h : i < l.length) : l.drop i = l[i] :: l.drop (i + 1) := List.drop_eq_getElem_cons h
/-- All numbers of a list are from lo to hi. -/
def allB (lo hi : Int) (l : List Int) : Bool := l.all fun x => decide (lo ≤ x ∧ x ≤ hi)
theorem allB_cons (lo hi x : Int) (l : List Int) : allB lo hi (x :: l) = (decide (lo ≤ x ∧ x ≤ hi) && allB lo hi l) := rfl
theorem allB_iff {lo hi : Int} {l : List Int} : allB lo hi l = true ↔ ∀ x ∈ l, lo ≤ x ∧ x ≤ hi := by
  unfold allB
  rw [List.all_eq_true]
  simp only [decide_eq_true_eq]
theorem areIn_ev (l : List Int) (n lo hi : Int) (hl : l.length ≤ 17592186043904) : Ev (fun k => impl_areIn.f k l n lo hi) (decide ((l.length : Int) = n) && allB lo hi l) := by
  have H : ∀ i, i ≤ l.length → Ev (fun k => impl_areIn.l0 k l n lo hi l (l.length : Int) (i : Int)) (decide ((l.length : Int) = n) && allB lo hi (l.drop i)) := by
    refine down l.length ?_ ?_
    · refine Ev.step (f := fun _ => some (decide ((l.length : Int) = n))) (fun k => ?_) ?_
      · simp only [impl_areIn.l0]
        rw [if_neg (by omega)]; congr 1
      · rw [List.drop_length]; simp only [allB, List.all_nil, Bool.and_true]; exact Ev.now _
    · intro i h1 h
      rw [drop_cons h1, allB_cons]
      by_cases c : lo ≤ l[i] ∧ l[i] ≤ hi
      · rw [decide_eq_true c, Bool.true_and]
        refine Ev.step (fun k => ?_) h
        simp only [impl_areIn.l0]
        rw [if_pos (by omega), if_pos (by omega), if_pos (by omega), rd_nat l i h1, within_eq, Option.bind_some, if_pos (decide_eq_true c), wrap_id (by omega) (by omega), cast1]
      · rw [decide_eq_false c, Bool.false_and, Bool.and_false]
        refine Ev.step (f := fun _ => some false) (fun k => ?_) (Ev.now _)
        simp only [impl_areIn.l0]
        rw [if_pos (by omega), if_pos (by omega), if_pos (by omega), rd_nat l i h1, within_eq, Option.bind_some, if_neg (by simpa using c)]
  exact H 0 (by omega)

/-- A side of edges is right: nothing, or eight dots. -/
def sideB (l : List Int) : Bool := decide (l.length = 0) || (decide (l.length = 8) && allB 0 255 l)
def edgesB (a l : List Int) (c : Int) : Bool := sideB a && (sideB l && decide (-1 ≤ c ∧ c ≤ 255))
theorem len_dec' (l : List Int) (n : Nat) (m : Int) (h : m = (n : Int)) : decide ((l.length : Int) = m) = decide (l.length = n) := by rw [decide_eq_decide]; omega
theorem side_loop (l : List Int) (hl : l.length ≤ 17592186043904) : ∀ i, i ≤ l.length → Ev (fun k => spec_l13Side.l0 k l (i : Int)) (allB 0 255 (l.drop i)) := by
  refine down l.length ?_ ?_
  · refine Ev.step (f := fun _ => some true) (fun k => ?_) (by rw [List.drop_length]; exact Ev.now _)
    simp only [spec_l13Side.l0]
    rw [if_neg (by omega)]
  · intro i h1 h
    rw [drop_cons h1, allB_cons]
    by_cases c : 0 ≤ l[i] ∧ l[i] ≤ 255
    · rw [decide_eq_true c, Bool.true_and]
      refine Ev.step (fun k => ?_) h
      simp only [spec_l13Side.l0]
      rw [if_pos (by omega), if_pos (by omega), rd_nat l i h1, in_eq, Option.bind_some, if_pos (decide_eq_true c), wrap_id (by omega) (by omega), cast1]
    · rw [decide_eq_false c, Bool.false_and]
      refine Ev.step (f := fun _ => some false) (fun k => ?_) (Ev.now _)
      simp only [spec_l13Side.l0]
      rw [if_pos (by omega), if_pos (by omega), rd_nat l i h1, in_eq, Option.bind_some, if_neg (by simpa using c)]
theorem side_ev (l : List Int) (hl : l.length ≤ 17592186043904) : Ev (fun k => spec_l13Side.f k l) (sideB l) := by
  unfold spec_l13Side.f sideB
  by_cases c0 : l.length = 0
  · have e : l = [] := List.eq_nil_of_length_eq_zero c0
    subst e
    refine Ev.congr (f := fun k => spec_l13Side.j0 k [] false) (fun k => rfl) (Ev.step (fun k => by simp only [spec_l13Side.j0, Bool.false_eq_true, if_false]; rfl) ?_)
    exact side_loop [] (by simp) 0 (by simp)
  · rw [decide_eq_false c0, Bool.false_or]
    by_cases c8 : l.length = 8
    · rw [decide_eq_true c8, Bool.true_and]
      refine Ev.congr (fun k => by rw [if_neg (by omega), show ((l.length : Int) != 8) = false by rw [bne_eq_false_iff_eq]; omega]) (Ev.step (fun k => by simp only [spec_l13Side.j0, Bool.false_eq_true, if_false]; rfl) ?_)
      exact side_loop l hl 0 (by omega)
    · rw [decide_eq_false c8, Bool.false_and]
      refine Ev.congr (fun k => by rw [if_neg (by omega), show ((l.length : Int) != 8) = true by rw [bne_iff_ne]; omega]) (Ev.step (f := fun _ => some false) (fun k => by simp only [spec_l13Side.j0]; rfl) (Ev.now _))
theorem sedges_ev (a l : List Int) (c : Int) (ha : a.length ≤ 17592186043904) (hl : l.length ≤ 17592186043904) : Ev (fun k => spec_EdgesOk.f k a l c) (edgesB a l c) := by
  unfold spec_EdgesOk.f edgesB
  refine Ev.bind (side_ev a ha) ?_
  cases sideB a with
  | false => simp only [Bool.false_eq_true, if_false, Bool.false_and]; exact Ev.now _
  | true =>
    simp only [if_true, Bool.true_and]
    refine Ev.bind (side_ev l hl) ?_
    cases sideB l with
    | false => simp only [Bool.false_eq_true, if_false, Bool.false_and]; exact Ev.now _
    | true =>
      simp only [if_true, Bool.true_and, in_eq, Option.bind_some]
      exact Ev.now _
theorem edge_round (a b l : List Int) (c : Int) (i : Int) (r : Bool) (x y : List Int) (hx : rd_L2 [x, y] i = a) (hi : i = 0 ∨ i = 1) (ha : a.length ≤ 17592186043904)
    (h : Ev (fun k => impl_EdgesOk.l0 k [x, y] 2 (i + 1) b l c) r) : Ev (fun k => impl_EdgesOk.l0 k [x, y] 2 i b l c) (sideB a && r) := by
  unfold sideB
  have hlen : (([x, y] : List (List Int)).length : Int) = 2 := rfl
  by_cases c0 : a.length = 0
  · rw [decide_eq_true c0, Bool.true_or, Bool.true_and]
    refine Ev.step (fun k => ?_) h
    simp only [impl_EdgesOk.l0]
    rw [if_pos (by omega), if_pos (by omega), if_pos (by omega), hx, if_neg (by omega), wrap_id (by omega) (by omega)]
  · rw [decide_eq_false c0, Bool.false_or]
    refine Ev.step (f := fun k => (impl_areIn.f k a 8 0 255).bind fun t => (if t = true then (impl_EdgesOk.l0 k [x, y] 2 (i + 1) b l c) else (some false))) (fun k => ?_) (Ev.bind (areIn_ev a 8 0 255 ha) ?_)
    · simp only [impl_EdgesOk.l0]
      rw [if_pos (by omega), if_pos (by omega), if_pos (by omega), hx, if_pos (by omega), wrap_id (by omega) (by omega)]
    · rw [len_dec' a 8 8 rfl]
      cases (decide (a.length = 8) && allB 0 255 a) with
      | false => simp only [Bool.false_eq_true, if_false, Bool.false_and]; exact Ev.now _
      | true => simp only [if_true, Bool.true_and]; exact h
theorem edges_ev (a l : List Int) (c : Int) (ha : a.length ≤ 17592186043904) (hl : l.length ≤ 17592186043904) : Ev (fun k => impl_EdgesOk.f k a l c) (edgesB a l c) := by
  unfold impl_EdgesOk.f edgesB
  simp only [Option.bind_some]
  refine edge_round a a l c 0 _ a l rfl (.inl rfl) ha ?_
  refine edge_round l a l c 1 _ a l rfl (.inr rfl) hl ?_
  refine Ev.step (f := fun _ => some (decide (-1 ≤ c ∧ c ≤ 255))) (fun k => ?_) (Ev.now _)
  simp only [impl_EdgesOk.l0]
  rw [if_neg (by omega), within_eq]
  rfl

/-- What a right picture is. -/
def PicR (w h : Int) (d : ByteArray) : Prop := (1 ≤ w ∧ w ≤ 256) ∧ (1 ≤ h ∧ h ≤ 256) ∧ (d.size : Int) = w * h
instance (w h : Int) (d : ByteArray) : Decidable (PicR w h d) := by unfold PicR; infer_instance
theorem small_mul {w h a b : Int} (h0 : 0 ≤ w) (h1 : w ≤ a) (h2 : 0 ≤ h) (h3 : h ≤ b) : 0 ≤ w * h ∧ w * h ≤ a * b := by
  refine ⟨Int.mul_nonneg h0 h2, ?_⟩
  exact Int.mul_le_mul h1 h3 h2 (by omega)

theorem mx0 {n hi : Int} (h : 0 ≤ hi) : 0 ≤ mx 0 (mn n hi) ∧ mx 0 (mn n hi) ≤ hi := by unfold mx mn; repeat' split <;> omega
def dotv (w h : Int) (d : ByteArray) (x y : Int) : Int := bt d (mx 0 (mn y (h - 1)) * w + mx 0 (mn x (w - 1)))
theorem spot {w h X Y : Int} (hw : 1 ≤ w) (hX : 0 ≤ X ∧ X ≤ w - 1) (hY : 0 ≤ Y ∧ Y ≤ h - 1) : 0 ≤ Y * w ∧ 0 ≤ Y * w + X ∧ Y * w + X < w * h := by
  have h1 : 0 ≤ Y * w := Int.mul_nonneg hY.1 (by omega)
  have h2 : Y * w ≤ (h - 1) * w := Int.mul_le_mul_of_nonneg_right hY.2 (by omega)
  have h3 : (h - 1) * w = w * h - w := by rw [Int.sub_mul, Int.one_mul, Int.mul_comm]
  omega
theorem dotv_range (w h : Int) (d : ByteArray) (x y : Int) : 0 ≤ dotv w h d x y ∧ dotv w h d x y ≤ 255 := bt_range _ _

def isum : List Int → Int
  | [] => 0
  | x :: l => x + isum l
theorem isum_bound (l : List Int) (h : ∀ x ∈ l, 0 ≤ x ∧ x ≤ 255) : 0 ≤ isum l ∧ isum l ≤ 255 * (l.length : Int) := by
  induction l with
  | nil => simp [isum]
  | cons x l ih =>
    have h1 := h x (by simp)
    have h2 := ih (fun y hy => h y (by simp [hy]))
    simp only [isum, List.length_cons]
    omega
def orG (l : List Int) : List Int := if l.length = 0 then [128, 128, 128, 128, 128, 128, 128, 128] else l
def midV (a l : List Int) : Int := if a.length + l.length = 0 then 128 else (isum a + isum l + ((a.length + l.length : Nat) : Int) / 2) / ((a.length + l.length : Nat) : Int)
def cornG (c : Int) : Int := if c < 0 then 128 else c
def guessAt (mode : Int) (a l : List Int) (c : Int) (i : Nat) : Int :=
  if mode = 0 then midV a l else if mode = 1 then rd (orG a) ((i % 8 : Nat) : Int) else if mode = 2 then rd (orG l) ((i / 8 : Nat) : Int) else mx 0 (mn (rd (orG l) ((i / 8 : Nat) : Int) + rd (orG a) ((i % 8 : Nat) : Int) - cornG c) 255)
def guessV (mode : Int) (a l : List Int) (c : Int) : List Int := (List.range 64).map (guessAt mode a l c)
theorem guessV_len (mode : Int) (a l : List Int) (c : Int) : (guessV mode a l c).length = 64 := by simp [guessV]
theorem guessV_get (mode : Int) (a l : List Int) (c : Int) (i : Nat) (h : i < (guessV mode a l c).length) : (guessV mode a l c)[i] = guessAt mode a l c i := by simp [guessV]
def guessR (mode : Int) (a l : List Int) (c : Int) : List Int := if edgesB a l c = true ∧ 0 ≤ mode ∧ mode ≤ 3 then guessV mode a l c else []
/-- What right edges are. -/
structure EdR (a l : List Int) (c : Int) : Prop where
  la : a.length = 0 ∨ a.length = 8
  ll : l.length = 0 ∨ l.length = 8
  ba : ∀ x ∈ a, 0 ≤ x ∧ x ≤ 255
  bl : ∀ x ∈ l, 0 ≤ x ∧ x ≤ 255
  bc : -1 ≤ c ∧ c ≤ 255
theorem sideB_iff {l : List Int} (h : sideB l = true) : (l.length = 0 ∨ l.length = 8) ∧ ∀ x ∈ l, 0 ≤ x ∧ x ≤ 255 := by
  unfold sideB at h
  rw [Bool.or_eq_true, Bool.and_eq_true, decide_eq_true_eq, decide_eq_true_eq] at h
  rcases h with h | ⟨h, hb⟩
  · exact ⟨.inl h, fun x hx => by rw [List.eq_nil_of_length_eq_zero h] at hx; simp at hx⟩
  · exact ⟨.inr h, allB_iff.1 hb⟩
theorem edgesB_right {a l : List Int} {c : Int} (h : edgesB a l c = true) : EdR a l c := by
  unfold edgesB at h
  rw [Bool.and_eq_true, Bool.and_eq_true, decide_eq_true_eq] at h
  have h1 := sideB_iff h.1
  have h2 := sideB_iff h.2.1
  exact ⟨h1.1, h2.1, h1.2, h2.2, h.2.2⟩
theorem right_sideB {l : List Int} (h : l.length = 0 ∨ l.length = 8) (hb : ∀ x ∈ l, 0 ≤ x ∧ x ≤ 255) : sideB l = true := by
  unfold sideB
  rw [Bool.or_eq_true, Bool.and_eq_true, decide_eq_true_eq, decide_eq_true_eq]
  rcases h with h | h
  · exact .inl h
  · exact .inr ⟨h, allB_iff.2 hb⟩
theorem right_edgesB {a l : List Int} {c : Int} (h : EdR a l c) : edgesB a l c = true := by
  unfold edgesB
  rw [Bool.and_eq_true, Bool.and_eq_true, decide_eq_true_eq]
  exact ⟨right_sideB h.la h.ba, right_sideB h.ll h.bl, h.bc⟩
theorem orG_len {l : List Int} (h : l.length = 0 ∨ l.length = 8) : (orG l).length = 8 := by
  unfold orG
  rcases h with h | h
  · rw [if_pos h]; rfl
  · rw [if_neg (by omega)]; exact h
theorem orG_in {l : List Int} (hb : ∀ x ∈ l, 0 ≤ x ∧ x ≤ 255) : ∀ x ∈ orG l, 0 ≤ x ∧ x ≤ 255 := by
  unfold orG
  split
  · intro x hx; simp at hx; omega
  · exact hb
theorem orG_rd {l : List Int} (h : l.length = 0 ∨ l.length = 8) (hb : ∀ x ∈ l, 0 ≤ x ∧ x ≤ 255) (i : Nat) (hi : i < 8) : 0 ≤ rd (orG l) (i : Int) ∧ rd (orG l) (i : Int) ≤ 255 := by
  rw [rd_nat _ i (by rw [orG_len h]; exact hi)]
  exact orG_in hb _ (List.getElem_mem _)
theorem midV_in {a l : List Int} {c : Int} (h : EdR a l c) : 0 ≤ midV a l ∧ midV a l ≤ 255 := by
  unfold midV
  have h1 := isum_bound a h.ba
  have h2 := isum_bound l h.bl
  by_cases c0 : a.length + l.length = 0
  · rw [if_pos c0]; omega
  · rw [if_neg c0]
    have hn : a.length + l.length = 8 ∨ a.length + l.length = 16 := by rcases h.la with e | e <;> rcases h.ll with e' | e' <;> omega
    rcases hn with e | e <;> rw [e] <;> omega
theorem guessAt_in {a l : List Int} {c mode : Int} (h : EdR a l c) (i : Nat) (hi : i < 64) : 0 ≤ guessAt mode a l c i ∧ guessAt mode a l c i ≤ 255 := by
  unfold guessAt
  have h1 := midV_in h
  have h2 := orG_rd h.la h.ba (i % 8) (by omega)
  have h3 := orG_rd h.ll h.bl (i / 8) (by omega)
  repeat' split
  · exact h1
  · exact h2
  · exact h3
  · exact mx0 (by omega)
theorem guessV_in {a l : List Int} {c mode : Int} (h : EdR a l c) : ∀ x ∈ guessV mode a l c, 0 ≤ x ∧ x ≤ 255 := by
  intro x hx
  obtain ⟨i, hi, rfl⟩ := List.mem_iff_getElem.1 hx
  rw [guessV_get]
  exact guessAt_in h i (by rw [guessV_len] at hi; exact hi)
theorem sumof_ev (l : List Int) (hl : l.length ≤ 8) (hb : ∀ x ∈ l, 0 ≤ x ∧ x ≤ 255) : Ev (fun k => impl_sumOf.f k l) (isum l) := by
  have H : ∀ i, i ≤ l.length → ∀ s : Int, 0 ≤ s → s ≤ 255 * (i : Int) → Ev (fun k => impl_sumOf.l0 k s l (l.length : Int) (i : Int)) (s + isum (l.drop i)) := by
    refine down l.length ?_ ?_
    · intro s _ _
      rw [List.drop_length, isum, Int.add_zero]
      refine Ev.step (f := fun _ => some s) (fun k => ?_) (Ev.now _)
      simp only [impl_sumOf.l0]
      rw [if_neg (by omega)]
    · intro i hi h s h0 h1
      have hx := hb _ (List.getElem_mem hi)
      have h' := h (s + l[i]) (by omega) (by omega)
      rw [drop_cons hi, isum, ← Int.add_assoc]
      refine Ev.step (fun k => ?_) h'
      simp only [impl_sumOf.l0]
      rw [if_pos (by omega), if_pos (by omega), if_pos (by omega), rd_nat l i hi, wrap_id (x := s + l[i]) (by omega) (by omega), wrap_id (by omega) (by omega), cast1]
  have h := H 0 (by omega) 0 (by omega) (by omega)
  rw [List.drop_zero, Int.zero_add] at h
  exact h
theorem orgrey_eq (l : List Int) : impl_orGrey.f l = some (orG l) := by
  unfold impl_orGrey.f orG
  by_cases c : l.length = 0
  · rw [if_pos (by omega), if_pos c]
  · rw [if_neg (by omega), if_neg c]
set_option maxHeartbeats 2000000 in
theorem guess_inner (mode : Int) (a l : List Int) (c : Int) (hm : 0 ≤ mode ∧ mode ≤ 3) (h : EdR a l c) (r : Nat) (hr : r < 8) (R : List Int)
    (hh : Ev (fun k => impl_GuessOf.l0 k mode ((guessV mode a l c).take (8 * (r + 1))) (midV a l) (orG a) (orG l) (cornG c) ((r + 1 : Nat) : Int)) R) :
    ∀ q : Nat, q ≤ 8 → Ev (fun k => impl_GuessOf.l1 k mode ((guessV mode a l c).take (8 * r + q)) (midV a l) (orG a) (orG l) (cornG c) (r : Int) (r : Int) (q : Int)) R := by
  have hl := guessV_len mode a l c
  have lA := orG_len h.la
  have lL := orG_len h.ll
  have hc : 0 ≤ cornG c ∧ cornG c ≤ 255 := by unfold cornG; have := h.bc; split <;> omega
  refine down 8 ?_ ?_
  · refine Ev.step (fun k => ?_) hh
    simp only [impl_GuessOf.l1]
    rw [if_neg (by omega), wrap_id (by omega) (by omega), cast1]; rfl
  · intro q hq h'
    have e := guessV_get mode a l c (8 * r + q) (by omega)
    unfold guessAt at e
    rw [show (8 * r + q) % 8 = q by omega, show (8 * r + q) / 8 = r by omega] at e
    have r1 := orG_rd h.la h.ba q hq
    have r2 := orG_rd h.ll h.bl r hr
    have hlen : ((guessV mode a l c).take (8 * r + q)).length < 17592186044416 := by simp; omega
    refine Ev.step (fun k => ?_) h'
    simp only [impl_GuessOf.l1]
    rw [if_pos (by omega), wrap_id (x := (q : Int) + 1) (by omega) (by omega), cast1]
    by_cases m0 : mode = 0
    · rw [if_pos m0] at e ⊢
      rw [if_pos hlen, ← e, ← List.take_succ_eq_append_getElem (by omega)]; rfl
    · rw [if_neg m0] at e ⊢
      by_cases m1 : mode = 1
      · rw [if_pos m1] at e ⊢
        rw [if_pos (by omega), if_pos (by omega), if_pos hlen, ← e, ← List.take_succ_eq_append_getElem (by omega)]; rfl
      · rw [if_neg m1] at e ⊢
        by_cases m2 : mode = 2
        · rw [if_pos m2] at e ⊢
          rw [if_pos (by omega), if_pos (by omega), if_pos hlen, ← e, ← List.take_succ_eq_append_getElem (by omega)]; rfl
        · rw [if_neg m2] at e ⊢
          rw [if_pos (by omega), if_pos (by omega), if_pos (by omega), if_pos (by omega), wrap_id (x := rd (orG l) (r : Int) + rd (orG a) (q : Int)) (by omega) (by omega), wrap_id (x := _ - cornG c) (by omega) (by omega)]
          unfold impl_Brought.f
          rw [Option.bind_some, if_pos hlen, ← e, ← List.take_succ_eq_append_getElem (by omega)]; rfl
theorem guess_rows (mode : Int) (a l : List Int) (c : Int) (hm : 0 ≤ mode ∧ mode ≤ 3) (h : EdR a l c) :
    ∀ r : Nat, r ≤ 8 → Ev (fun k => impl_GuessOf.l0 k mode ((guessV mode a l c).take (8 * r)) (midV a l) (orG a) (orG l) (cornG c) (r : Int)) (guessV mode a l c) := by
  have hl := guessV_len mode a l c
  refine down 8 ?_ ?_
  · refine Ev.step (f := fun _ => some (guessV mode a l c)) (fun k => ?_) (Ev.now _)
    simp only [impl_GuessOf.l0]
    rw [if_neg (by omega), List.take_of_length_le (by omega)]
  · intro r hr h'
    refine Ev.step (fun k => ?_) (guess_inner mode a l c hm h r hr _ h' 0 (by omega))
    simp only [impl_GuessOf.l0]
    rw [if_pos (by omega)]; rfl
theorem tdivn {x : Int} {n : Nat} (h : 0 ≤ x) : Int.tdiv x (n : Int) = x / (n : Int) := Int.tdiv_eq_ediv_of_nonneg h
theorem guess_j1 (mode : Int) (a l : List Int) (c : Int) (hm : 0 ≤ mode ∧ mode ≤ 3) (h : EdR a l c) : Ev (fun k => impl_GuessOf.j1 k mode [] (midV a l) a l c) (guessV mode a l c) := by
  have h0 := guess_rows mode a l c hm h 0 (by omega)
  have h1 : Ev (fun k => impl_GuessOf.j2 k mode [] (midV a l) (orG a) (orG l) (cornG c)) (guessV mode a l c) := Ev.step (fun k => by simp only [impl_GuessOf.j2] <;> rfl) h0
  refine Ev.step (fun k => ?_) h1
  simp only [impl_GuessOf.j1, orgrey_eq, Option.bind_some]
  unfold cornG
  by_cases c0 : c < 0
  · rw [if_pos c0, if_pos c0]
  · rw [if_neg c0, if_neg c0]
set_option maxHeartbeats 2000000 in
theorem guessof_ev (mode : Int) (a l : List Int) (c : Int) (ha : a.length ≤ 1048576) (hl : l.length ≤ 1048576) : Ev (fun k => impl_GuessOf.f k mode a l c) (guessR mode a l c) := by
  unfold impl_GuessOf.f guessR
  simp only [Option.bind_some, within_eq]
  have hbad : Ev (fun k => impl_GuessOf.j0 k mode [] true a l c) [] := Ev.step (f := fun _ => some []) (fun k => by simp only [impl_GuessOf.j0]; rfl) (Ev.now _)
  refine Ev.bind (edges_ev a l c (by omega) (by omega)) ?_
  by_cases he : edgesB a l c = true
  · have h := edgesB_right he
    by_cases hm : 0 ≤ mode ∧ mode ≤ 3
    · rw [if_pos ⟨he, hm⟩]
      simp only [he, hm, and_self, decide_true, if_true, Bool.not_true]
      have hj := guess_j1 mode a l c hm h
      have s1 := isum_bound a h.ba
      have s2 := isum_bound l h.bl
      have la : a.length ≤ 8 := by rcases h.la with e | e <;> omega
      have ll : l.length ≤ 8 := by rcases h.ll with e | e <;> omega
      have ew : wrap64 ((a.length : Int) + (l.length : Int)) = ((a.length + l.length : Nat) : Int) := by rw [wrap_id (by omega) (by omega)]; omega
      by_cases c0 : a.length + l.length = 0
      · refine Ev.step (fun k => ?_) hj
        simp only [impl_GuessOf.j0, Bool.false_eq_true, if_false, ew]
        rw [if_neg (by omega)]
        unfold midV
        rw [if_pos c0]
      · refine Ev.step (f := fun k => (impl_sumOf.f k a).bind fun t124 => ((impl_sumOf.f k l).bind fun t125 => impl_GuessOf.j1 k mode [] (wrap64 (Int.tdiv (wrap64 ((wrap64 (t124 + t125)) + (wrap64 (Int.tdiv ((a.length + l.length : Nat) : Int) 2)))) ((a.length + l.length : Nat) : Int))) a l c)) (fun k => ?_) (Ev.bind (sumof_ev a la h.ba) (Ev.bind (sumof_ev l ll h.bl) ?_))
        · simp only [impl_GuessOf.j0, Bool.false_eq_true, if_false, ew]
          rw [if_pos (by omega)]
          simp only [show ¬ (((a.length + l.length : Nat) : Int) = 0) from by omega, if_false]
        · have em : wrap64 (Int.tdiv (wrap64 ((wrap64 (isum a + isum l)) + (wrap64 (Int.tdiv ((a.length + l.length : Nat) : Int) 2)))) ((a.length + l.length : Nat) : Int)) = midV a l := by
            have hmid := midV_in h
            unfold midV at hmid ⊢
            rw [if_neg c0] at hmid ⊢
            have e2 : Int.tdiv ((a.length + l.length : Nat) : Int) 2 = ((a.length + l.length : Nat) : Int) / 2 := Int.tdiv_eq_ediv_of_nonneg (by omega)
            rw [e2, wrap_id (x := isum a + isum l) (by omega) (by omega), wrap_id (x := ((a.length + l.length : Nat) : Int) / 2) (by omega) (by omega), wrap_id (x := isum a + isum l + _) (by omega) (by omega), tdivn (by omega), wrap_id (by omega) (by omega)]
          rw [em]; exact hj
    · rw [if_neg (fun h => hm h.2)]
      simp only [he, hm, decide_false, if_true, Bool.not_false]; exact hbad
  · rw [if_neg (fun h => he h.1)]
    simp only [he, if_false]; exact hbad
theorem guessR_len (mode : Int) (a l : List Int) (c : Int) : (guessR mode a l c).length ≤ 64 := by
  unfold guessR
  split
  · rw [guessV_len]; omega
  · simp

theorem and_le (x : Int) (m : Nat) (hm : m < 9223372036854775808) : 0 ≤ Go.bits .and .i64 x (m : Int) ∧ Go.bits .and .i64 x (m : Int) ≤ (m : Int) := by
  have h : (BitVec.ofInt 64 x &&& BitVec.ofInt 64 (m : Int)).toNat ≤ m := by
    rw [BitVec.toNat_and]
    refine Nat.le_trans Nat.and_le_right ?_
    rw [BitVec.ofInt_natCast, BitVec.toNat_ofNat]
    exact Nat.mod_le _ _
  have e : Go.bits .and .i64 x (m : Int) = IntKind.i64.wrap (((BitVec.ofInt 64 x &&& BitVec.ofInt 64 (m : Int)).toNat : Nat) : Int) := rfl
  rw [e, IntKind.wrap_i64]
  omega

theorem rounds_ev {α : Type} {g : Nat → Option α} {r : α} (h : Ev g r) : ∃ k, g k = some r := h.rounds
theorem byte_at (b : List Int) (hb : b.length ≤ 140737488351232) (i h : Int) (h0 : 0 ≤ i) (h1 : i ≤ (b.length : Int)) :
    ∃ x i' h', spec_l01Byte.f b i h = some (x, i', h') ∧ 0 ≤ x ∧ x ≤ 255 ∧ 0 ≤ i' ∧ i' ≤ (b.length : Int) := by
  unfold spec_l01Byte.f
  by_cases c : i < (b.length : Int)
  · rw [if_pos c, if_pos h0]
    exact ⟨_, _, _, rfl, (and_le _ 255 (by decide)).1, (and_le _ 255 (by decide)).2, by rw [wrap_id (by omega) (by omega)]; omega, by rw [wrap_id (by omega) (by omega)]; omega⟩
  · rw [if_neg c]
    exact ⟨_, _, _, rfl, (and_le _ 255 (by decide)).1, (and_le _ 255 (by decide)).2, h0, h1⟩
theorem below_at (b : List Int) (hb : b.length ≤ 140737488351232) (i h n : Int) (h0 : 0 ≤ i) (h1 : i ≤ (b.length : Int)) (hn : 0 < n) :
    ∃ x i' h', spec_l01Below.f b i h n = some (x, i', h') ∧ 0 ≤ x ∧ x < n ∧ 0 ≤ i' ∧ i' ≤ (b.length : Int) := by
  unfold spec_l01Below.f
  rw [if_neg (by omega)]
  obtain ⟨x, i1, s1, e1, x0, x1, p1, q1⟩ := byte_at b hb i h h0 h1
  by_cases c : n ≤ 256
  · rw [if_pos c, e1, Option.bind_some, if_neg (by omega)]
    exact ⟨_, _, _, rfl, by simp only [Int.tmod_eq_emod_of_nonneg x0]; exact Int.emod_nonneg _ (by omega), by simp only [Int.tmod_eq_emod_of_nonneg x0]; exact Int.emod_lt_of_pos _ hn, p1, q1⟩
  · obtain ⟨y, i2, s2, e2, y0, y1, p2, q2⟩ := byte_at b hb i1 s1 p1 q1
    obtain ⟨z, i3, s3, e3, z0, z1, p3, q3⟩ := byte_at b hb i2 s2 p2 q2
    obtain ⟨w, i4, s4, e4, w0, w1, p4, q4⟩ := byte_at b hb i3 s3 p3 q3
    rw [if_neg c, e1, Option.bind_some]
    simp only []
    rw [e2, Option.bind_some]
    simp only []
    rw [e3, Option.bind_some]
    simp only []
    rw [e4, Option.bind_some, if_neg (by omega)]
    have hs : wrap64 (wrap64 (wrap64 (wrap64 (x * 16777216) + wrap64 (y * 65536)) + wrap64 (z * 256)) + w) = x * 16777216 + y * 65536 + z * 256 + w := by
      rw [wrap_id (x := x * 16777216) (by omega) (by omega), wrap_id (x := y * 65536) (by omega) (by omega), wrap_id (x := z * 256) (by omega) (by omega), wrap_id (x := x * 16777216 + y * 65536) (by omega) (by omega), wrap_id (x := x * 16777216 + y * 65536 + z * 256) (by omega) (by omega), wrap_id (by omega) (by omega)]
    refine ⟨_, _, _, rfl, ?_, ?_, p4, q4⟩
    · simp only [hs]; rw [Int.tmod_eq_emod_of_nonneg (by omega)]; exact Int.emod_nonneg _ (by omega)
    · simp only [hs]; rw [Int.tmod_eq_emod_of_nonneg (by omega)]; exact Int.emod_lt_of_pos _ hn
theorem below_any (b : List Int) (hb : b.length ≤ 140737488351232) (i h n : Int) (h0 : 0 ≤ i) (h1 : i ≤ (b.length : Int)) :
    ∃ x i' h', spec_l01Below.f b i h n = some (x, i', h') ∧ 0 ≤ x ∧ (0 < n → x < n) ∧ 0 ≤ i' ∧ i' ≤ (b.length : Int) := by
  by_cases hn : 0 < n
  · obtain ⟨x, i', h', e, x0, x1, p, q⟩ := below_at b hb i h n h0 h1 hn
    exact ⟨x, i', h', e, x0, fun _ => x1, p, q⟩
  · exact ⟨0, i, h, by unfold spec_l01Below.f; rw [if_pos (by omega)], by omega, fun h => absurd h hn, h0, h1⟩
theorem new_loop (l : List Int) (hl : l.length ≤ 140737488351232) (d : Nat) : ∀ h i : Int, 0 ≤ i → (l.length : Int) - i = d → ∃ h', Ev (fun k => spec_l01New.l0 k l h i) (l, 0, h') := by
  induction d with
  | zero =>
    intro h i h0 hd
    exact ⟨h, Ev.step (f := fun _ => some (l, 0, h)) (fun k => by simp only [spec_l01New.l0]; rw [if_neg (by omega)]) (Ev.now _)⟩
  | succ d ih =>
    intro h i h0 hd
    by_cases c : i < 4000
    · obtain ⟨h', e⟩ := ih (Go.bits .and .i64 (wrap64 ((wrap64 ((wrap64 (h * 131)) + (wrap64 (rd l i)))) + 7)) 1073741823) (i + 1) (by omega) (by omega)
      refine ⟨h', Ev.step (fun k => ?_) e⟩
      simp only [spec_l01New.l0]
      rw [if_pos (by omega), if_pos c, if_pos h0, wrap_id (x := i + 1) (by omega) (by omega)]
    · exact ⟨h, Ev.step (f := fun _ => some (l, 0, h)) (fun k => by simp only [spec_l01New.l0]; rw [if_pos (by omega), if_neg c]) (Ev.now _)⟩
theorem new_ev (l : List Int) (hl : l.length ≤ 140737488351232) : ∃ h, Ev (fun k => spec_l01New.f k l) (l, 0, h) := by
  obtain ⟨h, e⟩ := new_loop l hl l.length (wrap64 (94701 + (l.length : Int))) 0 (by omega) (by omega)
  exact ⟨h, e⟩
theorem places_loop (b : List Int) (hb : b.length ≤ 140737488351232) (d : Nat) : ∀ (out : List Int) (j i h : Int), 0 ≤ j → 12 - j = (d : Int) → (out.length : Int) = j → (∀ x ∈ out, 0 ≤ x ∧ x < 10000) → 0 ≤ i → i ≤ (b.length : Int) →
    ∃ p, Ev (fun k => spec_DrawPlaces.l0 k out j b i h) p ∧ p.length = 12 ∧ ∀ x ∈ p, 0 ≤ x ∧ x < 10000 := by
  induction d with
  | zero =>
    intro out j i h hj hd ho hx h0 h1
    exact ⟨out, Ev.step (f := fun _ => some out) (fun k => by simp only [spec_DrawPlaces.l0]; rw [if_neg (by omega)]) (Ev.now _), by omega, hx⟩
  | succ d ih =>
    intro out j i h hj hd ho hx h0 h1
    obtain ⟨x, i', h', e, x0, x1, p, q⟩ := below_at b hb i h 10000 h0 h1 (by omega)
    obtain ⟨r, er, hr⟩ := ih (out ++ [x]) (j + 1) i' h' (by omega) (by omega) (by simp; omega) (by
      intro y hy
      rcases List.mem_append.1 hy with hy | hy
      · exact hx y hy
      · simp at hy; subst hy; exact ⟨x0, x1⟩) p q
    refine ⟨r, Ev.step (fun k => ?_) er, hr⟩
    simp only [spec_DrawPlaces.l0]
    rw [if_pos (by omega), e, Option.bind_some, if_pos (by omega), wrap_id (x := j + 1) (by omega) (by omega)]
theorem places_ev (l : List Int) (hl : l.length ≤ 140737488351232) : ∃ p, Ev (fun k => spec_DrawPlaces.f k l) p ∧ p.length = 12 ∧ ∀ x ∈ p, 0 ≤ x ∧ x < 10000 := by
  obtain ⟨h, e⟩ := new_ev l hl
  obtain ⟨x, i', h', e1, x0, x1, p0, p1⟩ := byte_at l hl 0 h (by omega) (by omega)
  obtain ⟨p, ep, hp⟩ := places_loop l hl 12 [] 0 i' h' (by omega) (by omega) rfl (by simp) p0 p1
  refine ⟨p, ?_, hp⟩
  unfold spec_DrawPlaces.f
  refine Ev.bind e ?_
  simp only [e1, Option.bind_some]
  exact ep
theorem rd_mem {l : List Int} {P : Int → Prop} (h : ∀ x ∈ l, P x) (i : Int) (h0 : 0 ≤ i) (h1 : i < (l.length : Int)) : P (rd l i) := by
  unfold rd
  rw [List.getD_eq_getElem?_getD, List.getElem?_eq_getElem (by omega)]
  exact h _ (List.getElem_mem _)

theorem snoc_all {P : Int → Prop} {l : List Int} {x : Int} (h : ∀ y ∈ l, P y) (hx : P x) : ∀ y ∈ l ++ [x], P y := by
  intro y hy
  rcases List.mem_append.1 hy with hy | hy
  · exact h y hy
  · simp at hy; subst hy; exact hx
theorem mod256 (x : Int) : 0 ≤ x % 256 ∧ x % 256 ≤ 255 := by omega
theorem dots_loop (b : List Int) (hb : b.length ≤ 140737488351232) (n : Nat) (hn : n ≤ 1000000) (d : Nat) : ∀ (out : List Int) (x i p h : Int), 0 ≤ i → (n : Int) - i = (d : Int) → (out.length : Int) = i → (∀ y ∈ out, 0 ≤ y ∧ y ≤ 255) → 0 ≤ p → p ≤ (b.length : Int) →
    ∃ r p' h', Ev (fun k => spec_l12Dots.l0 k (n : Int) out x i b p h) (strOfNums r, p', h') ∧ r.length = n ∧ (∀ y ∈ r, 0 ≤ y ∧ y ≤ 255) ∧ 0 ≤ p' ∧ p' ≤ (b.length : Int) := by
  induction d with
  | zero =>
    intro out x i p h hi hd ho hx h0 h1
    exact ⟨out, p, h, Ev.step (f := fun _ => some (strOfNums out, p, h)) (fun k => by simp only [spec_l12Dots.l0]; rw [if_neg (by omega)]) (Ev.now _), by omega, hx, h0, h1⟩
  | succ d ih =>
    intro out x i p h hi hd ho hx h0 h1
    obtain ⟨y, p1, h1', e1, y0, y1, q0, q1⟩ := below_at b hb p h 6 h0 h1 (by omega)
    by_cases c0 : y = 0
    · obtain ⟨z, p2, h2', e2, z0, z1, s0, s1⟩ := byte_at b hb p1 h1' q0 q1
      obtain ⟨r, p', h', er, hr⟩ := ih (out ++ [z % 256]) z (i + 1) p2 h2' (by omega) (by omega) (by simp; omega) (snoc_all hx (mod256 _)) s0 s1
      refine ⟨r, p', h', Ev.step (fun k => ?_) er, hr⟩
      simp only [spec_l12Dots.l0]
      rw [if_pos (by omega), e1, Option.bind_some, if_pos c0, e2, Option.bind_some, if_pos (by omega), wrap_id (x := i + 1) (by omega) (by omega)]
    · by_cases c1 : y = 1
      · obtain ⟨z, p2, h2', e2, z0, z1, s0, s1⟩ := below_at b hb p1 h1' 9 q0 q1 (by omega)
        obtain ⟨r, p', h', er, hr⟩ := ih (out ++ [(Go.bits .and .i64 (wrap64 ((wrap64 (x + z)) + 252)) 255) % 256]) (Go.bits .and .i64 (wrap64 ((wrap64 (x + z)) + 252)) 255) (i + 1) p2 h2' (by omega) (by omega) (by simp; omega) (snoc_all hx (mod256 _)) s0 s1
        refine ⟨r, p', h', Ev.step (fun k => ?_) er, hr⟩
        simp only [spec_l12Dots.l0]
        rw [if_pos (by omega), e1, Option.bind_some, if_neg c0, if_pos c1, e2, Option.bind_some, if_pos (by omega), wrap_id (x := i + 1) (by omega) (by omega)]
      · obtain ⟨r, p', h', er, hr⟩ := ih (out ++ [x % 256]) x (i + 1) p1 h1' (by omega) (by omega) (by simp; omega) (snoc_all hx (mod256 _)) q0 q1
        refine ⟨r, p', h', Ev.step (fun k => ?_) er, hr⟩
        simp only [spec_l12Dots.l0]
        rw [if_pos (by omega), e1, Option.bind_some, if_neg c0, if_neg c1, if_pos (by omega), wrap_id (x := i + 1) (by omega) (by omega)]
theorem dots_ev (b : List Int) (hb : b.length ≤ 140737488351232) (p h : Int) (n : Nat) (hn : n ≤ 1000000) (h0 : 0 ≤ p) (h1 : p ≤ (b.length : Int)) :
    ∃ r p' h', Ev (fun k => spec_l12Dots.f k b p h (n : Int)) (strOfNums r, p', h') ∧ r.length = n ∧ (∀ y ∈ r, 0 ≤ y ∧ y ≤ 255) ∧ 0 ≤ p' ∧ p' ≤ (b.length : Int) := by
  obtain ⟨x, p1, h1', e1, x0, x1, q0, q1⟩ := byte_at b hb p h h0 h1
  obtain ⟨r, p', h', er, hr⟩ := dots_loop b hb n hn n [] x 0 p1 h1' (by omega) (by omega) rfl (by simp) q0 q1
  refine ⟨r, p', h', ?_, hr⟩
  unfold spec_l12Dots.f
  simp only [e1, Option.bind_some]
  exact er
theorem bytes_get (s : ByteArray) (i : Nat) (h : i < (bytesOf s).length) : (bytesOf s)[i] = bt s (i : Int) := by
  rw [← rd_bytesOf, rd_nat _ i h]
theorem ints_ev (s : ByteArray) (hs : s.size ≤ 1000000) : Ev (fun k => spec_l13Ints.f k s) (bytesOf s) := by
  have hl := bytesOf_length s
  have H : ∀ i, i ≤ s.size → Ev (fun k => spec_l13Ints.l0 k s ((bytesOf s).take i) (i : Int)) (bytesOf s) := by
    refine down s.size ?_ ?_
    · refine Ev.step (f := fun _ => some (bytesOf s)) (fun k => ?_) (Ev.now _)
      simp only [spec_l13Ints.l0]
      rw [if_neg (by omega), List.take_of_length_le (by omega)]
    · intro i hi h
      refine Ev.step (fun k => ?_) h
      have hr := bt_range s i
      simp only [spec_l13Ints.l0]
      rw [if_pos (by omega), if_pos (by omega), if_pos (by simp; omega), wrap_id (x := bt s (i : Int)) (by omega) (by omega), ← bytes_get s i (by omega), ← List.take_succ_eq_append_getElem (by omega), wrap_id (by omega) (by omega), cast1]
  exact H 0 (by omega)
theorem bytes_in (s : ByteArray) : ∀ x ∈ bytesOf s, 0 ≤ x ∧ x ≤ 255 := by
  intro x hx
  obtain ⟨i, hi, rfl⟩ := List.mem_iff_getElem.1 hx
  rw [bytes_get]
  exact bt_range _ _

theorem edges_j0 (b : List Int) (hb : b.length ≤ 140737488351232) (p h : Int) (h0 : 0 ≤ p) (h1 : p ≤ (b.length : Int)) (a s : List Int) (c : Int) (ha : a.length ≤ 8) (hs : s.length = 0 ∨ s.length = 8) :
    ∃ a' s' c' p' h', Ev (fun k => spec_l13Edges.j0 k b p h a s c) (a', s', c', p', h') ∧ a'.length ≤ 9 ∧ s'.length ≤ 8 := by
  obtain ⟨x, p1, h1', e, _, _, q0, q1⟩ := below_at b hb p h 20 h0 h1 (by omega)
  have pk : ∀ u v w : Int, ∃ y p2 h2, spec_l01PickInt.f b p1 h1' [u, v, w] = some (y, p2, h2) := by
    intro u v w
    obtain ⟨i, p2, h2, e2, i0, i1, _, _⟩ := below_at b hb p1 h1' 3 q0 q1 (by omega)
    refine ⟨rd [u, v, w] i, p2, h2, ?_⟩
    unfold spec_l01PickInt.f
    show ((spec_l01Below.f b p1 h1' 3).bind _) = _
    rw [e2, Option.bind_some, if_pos i0, if_pos (by simpa using i1)]
  by_cases c0 : x = 0
  · refine ⟨a ++ [9], s, c, p1, h1', Ev.step (f := fun _ => some (a ++ [9], s, c, p1, h1')) (fun k => ?_) (Ev.now _), by simp; omega, by omega⟩
    simp only [spec_l13Edges.j0]
    rw [e, Option.bind_some, if_pos c0, if_pos (by omega)]
  · by_cases c1 : x = 1
    · by_cases c3 : (s.length : Int) > 0
      · obtain ⟨y, p2, h2, e2⟩ := pk (-1) 256 255
        refine ⟨a, s.set (3 : Int).toNat y, c, p2, h2, Ev.step (f := fun _ => some (a, s.set (3 : Int).toNat y, c, p2, h2)) (fun k => ?_) (Ev.now _), by omega, by simp; omega⟩
        simp only [spec_l13Edges.j0]
        rw [e, Option.bind_some, if_neg c0, if_pos c1, if_pos c3, e2, Option.bind_some, if_pos (by omega)]
      · refine ⟨a, s, c, p1, h1', Ev.step (f := fun _ => some (a, s, c, p1, h1')) (fun k => ?_) (Ev.now _), by omega, by omega⟩
        simp only [spec_l13Edges.j0]
        rw [e, Option.bind_some, if_neg c0, if_pos c1, if_neg c3]
    · by_cases c2 : x = 2
      · obtain ⟨y, p2, h2, e2⟩ := pk (-2) 256 255
        refine ⟨a, s, y, p2, h2, Ev.step (f := fun _ => some (a, s, y, p2, h2)) (fun k => ?_) (Ev.now _), by omega, by omega⟩
        simp only [spec_l13Edges.j0]
        rw [e, Option.bind_some, if_neg c0, if_neg c1, if_pos c2, e2, Option.bind_some]
      · refine ⟨a, s, c, p1, h1', Ev.step (f := fun _ => some (a, s, c, p1, h1')) (fun k => ?_) (Ev.now _), by omega, by omega⟩
        simp only [spec_l13Edges.j0]
        rw [e, Option.bind_some, if_neg c0, if_neg c1, if_neg c2]
theorem edges_draw (b : List Int) (hb : b.length ≤ 140737488351232) (p h : Int) (h0 : 0 ≤ p) (h1 : p ≤ (b.length : Int)) :
    ∃ a s c p' h', Ev (fun k => spec_l13Edges.f k b p h) (a, s, c, p', h') ∧ a.length ≤ 9 ∧ s.length ≤ 8 := by
  obtain ⟨r1, p1, h1', e1, l1, _, a0, a1⟩ := dots_ev b hb p h 8 (by omega) h0 h1
  obtain ⟨r2, p2, h2', e2, l2, _, b0, b1⟩ := dots_ev b hb p1 h1' 8 (by omega) a0 a1
  obtain ⟨x, p3, h3, e3, _, _, c0, c1⟩ := byte_at b hb p2 h2' b0 b1
  obtain ⟨y, p4, h4, e4, _, _, d0, d1⟩ := below_at b hb p3 h3 8 c0 c1 (by omega)
  have f1 := ints_ev (strOfNums r1) (by rw [strOfNums_size]; omega)
  have f2 := ints_ev (strOfNums r2) (by rw [strOfNums_size]; omega)
  have L1 : (bytesOf (strOfNums r1)).length = 8 := by rw [bytesOf_length, strOfNums_size, l1]
  have L2 : (bytesOf (strOfNums r2)).length = 8 := by rw [bytesOf_length, strOfNums_size, l2]
  have fin : ∀ a s c, a.length ≤ 8 → (s.length = 0 ∨ s.length = 8) → ∃ a' s' c' p' h', Ev (fun k => spec_l13Edges.j0 k b p4 h4 a s c) (a', s', c', p', h') ∧ a'.length ≤ 9 ∧ s'.length ≤ 8 := fun a s c ha hs => edges_j0 b hb p4 h4 d0 d1 a s c ha hs
  have key : ∀ {v : List Int × List Int × Int × Int × Int}, Ev (fun k => if y = 0 then (spec_l13Edges.j0 k b p4 h4 (([] : List Int)) (bytesOf (strOfNums r2)) (-1)) else (if y = 1 then (spec_l13Edges.j0 k b p4 h4 (bytesOf (strOfNums r1)) (([] : List Int)) (-1)) else (if y = 2 then (spec_l13Edges.j0 k b p4 h4 ([] : List Int) ([] : List Int) (-1)) else (spec_l13Edges.j0 k b p4 h4 (bytesOf (strOfNums r1)) (bytesOf (strOfNums r2)) x)))) v → Ev (fun k => spec_l13Edges.f k b p h) v := by
    intro v hv
    unfold spec_l13Edges.f
    refine Ev.bind e1 (Ev.bind f1 (Ev.bind e2 (Ev.bind f2 ?_)))
    simp only [e3, e4, Option.bind_some]
    exact hv
  by_cases y0 : y = 0
  · obtain ⟨a', s', c', p', h', e, l⟩ := fin [] (bytesOf (strOfNums r2)) (-1) (by simp) (by omega)
    exact ⟨a', s', c', p', h', key (Ev.congr (fun k => by rw [if_pos y0]) e), l⟩
  · by_cases y1 : y = 1
    · obtain ⟨a', s', c', p', h', e, l⟩ := fin (bytesOf (strOfNums r1)) [] (-1) (by omega) (by simp)
      exact ⟨a', s', c', p', h', key (Ev.congr (fun k => by rw [if_neg y0, if_pos y1]) e), l⟩
    · by_cases y2 : y = 2
      · obtain ⟨a', s', c', p', h', e, l⟩ := fin [] [] (-1) (by simp) (by simp)
        exact ⟨a', s', c', p', h', key (Ev.congr (fun k => by rw [if_neg y0, if_neg y1, if_pos y2]) e), l⟩
      · obtain ⟨a', s', c', p', h', e, l⟩ := fin (bytesOf (strOfNums r1)) (bytesOf (strOfNums r2)) x (by omega) (by omega)
        exact ⟨a', s', c', p', h', key (Ev.congr (fun k => by rw [if_neg y0, if_neg y1, if_neg y2]) e), l⟩
theorem drawedges_ev (l : List Int) (hl : l.length ≤ 140737488351232) : ∃ a s c, Ev (fun k => spec_DrawEdges.f k l) (a, s, c) ∧ EdR a s c := by
  obtain ⟨h, e⟩ := new_ev l hl
  obtain ⟨a, s, c, p', h', e2, la, ls⟩ := edges_draw l hl 0 h (by omega) (by omega)
  have e3 := sedges_ev a s c (by omega) (by omega)
  cases hb : edgesB a s c with
  | true =>
    refine ⟨a, s, c, ?_, edgesB_right hb⟩
    unfold spec_DrawEdges.f
    refine Ev.bind e (Ev.bind e2 (Ev.bind e3 ?_))
    simp only [hb, if_true]
    exact Ev.now _
  | false =>
    refine ⟨[], [], -1, ?_, ⟨.inl rfl, .inl rfl, by simp, by simp, by omega⟩⟩
    unfold spec_DrawEdges.f
    refine Ev.bind e (Ev.bind e2 (Ev.bind e3 ?_))
    simp only [hb, Bool.false_eq_true, if_false]
    exact Ev.now _
theorem guessR_right {mode : Int} {a l : List Int} {c : Int} (hm : 0 ≤ mode ∧ mode ≤ 3) (h : EdR a l c) : guessR mode a l c = guessV mode a l c := by
  unfold guessR
  rw [if_pos ⟨right_edgesB h, hm⟩]

theorem flat_right (d : Int) (h0 : 0 ≤ d) (h1 : d ≤ 255) : EdR (List.replicate 8 d) (List.replicate 8 d) d := by
  have hb : ∀ x ∈ List.replicate 8 d, 0 ≤ x ∧ x ≤ 255 := by
    intro x hx
    rw [List.eq_of_mem_replicate hx]; omega
  exact ⟨.inr (by simp), .inr (by simp), hb, hb, by omega⟩
theorem flat_at (d : Int) (h0 : 0 ≤ d) (h1 : d ≤ 255) (mode : Int) (i : Nat) (hi : i < 64) : guessAt mode (List.replicate 8 d) (List.replicate 8 d) d i = d := by
  have r : ∀ j : Nat, j < 8 → rd (orG (List.replicate 8 d)) (j : Int) = d := by
    intro j hj
    have : orG (List.replicate 8 d) = List.replicate 8 d := by unfold orG; rw [if_neg (by simp)]
    rw [this, rd_nat _ j (by simpa using hj), List.getElem_replicate]
  have hm : midV (List.replicate 8 d) (List.replicate 8 d) = d := by
    have hs : isum (List.replicate 8 d) = 8 * d := by simp only [List.replicate, isum]; omega
    unfold midV
    rw [hs]
    simp only [List.length_replicate]
    rw [if_neg (by omega)]
    omega
  have hc : cornG d = d := by unfold cornG; rw [if_neg (by omega)]
  unfold guessAt
  rw [r (i % 8) (by omega), r (i / 8) (by omega), hm, hc]
  have : mx 0 (mn (d + d - d) 255) = d := by unfold mx mn; repeat' split <;> omega
  rw [this]
  simp only [ite_self]
theorem guesses_l2 (d : Int) (m : Int) (hm : 0 ≤ m ∧ m ≤ 3) (v v2 : List Int) (hv : v.length = 64) (hv2 : v2.length = 64) (bv : ∀ x ∈ v, 0 ≤ x ∧ x ≤ 255) (b2 : ∀ i : Nat, i < 64 → rd v2 (i : Int) = d) (a s : List Int) (c : Int) (a2 s2 : List Int) (c2 : Int) (R : Bool)
    (h : Ev (fun k => laws_FnGuesses.l1 k d (m + 1) a s c a2 s2 c2) R) : ∀ i : Nat, i ≤ 64 → Ev (fun k => laws_FnGuesses.l2 k d m v v2 (i : Int) a s c a2 s2 c2) R := by
  refine down 64 ?_ ?_
  · refine Ev.step (fun k => ?_) h
    simp only [laws_FnGuesses.l2]
    rw [if_neg (by omega), wrap_id (by omega) (by omega)]
  · intro i hi h'
    have r1 := rd_mem bv (i : Int) (by omega) (by omega)
    refine Ev.step (fun k => ?_) h'
    simp only [laws_FnGuesses.l2]
    rw [if_pos (by omega), if_pos (by omega), if_pos (by omega), if_neg (by omega), if_neg (by omega), if_pos (by omega), if_pos (b2 i hi), wrap_id (by omega) (by omega), cast1]
theorem guesses_l1 (d : Int) (h0 : 0 ≤ d) (h1 : d ≤ 255) (a s : List Int) (c : Int) (h : EdR a s c) :
    ∀ m : Nat, m ≤ 4 → Ev (fun k => laws_FnGuesses.l1 k d (m : Int) a s c (List.replicate 8 d) (List.replicate 8 d) d) true := by
  have hf := flat_right d h0 h1
  have la : a.length ≤ 8 := by rcases h.la with e | e <;> omega
  have ls : s.length ≤ 8 := by rcases h.ll with e | e <;> omega
  refine down 4 ?_ ?_
  · have e1 := edges_ev a s c (by omega) (by omega)
    have e2 := edges_ev (List.replicate 8 d) (List.replicate 8 d) d (by simp) (by simp)
    rw [right_edgesB h] at e1
    rw [right_edgesB hf] at e2
    refine Ev.step (fun k => by simp only [laws_FnGuesses.l1]; rw [if_neg (by omega)]) (Ev.bind e1 ?_)
    simp only [if_true]
    exact Ev.bind e2 (Ev.now _)
  · intro m hm h'
    have hmm : 0 ≤ (m : Int) ∧ (m : Int) ≤ 3 := by omega
    have g1 := guessof_ev (m : Int) a s c (by omega) (by omega)
    have g2 := guessof_ev (m : Int) (List.replicate 8 d) (List.replicate 8 d) d (by simp) (by simp)
    rw [guessR_right hmm h] at g1
    rw [guessR_right hmm hf] at g2
    have hl1 := guessV_len (m : Int) a s c
    have hl2 := guessV_len (m : Int) (List.replicate 8 d) (List.replicate 8 d) d
    rw [show (((m + 1 : Nat) : Int)) = (m : Int) + 1 by omega] at h'
    have hz := guesses_l2 d (m : Int) hmm _ _ hl1 hl2 (guessV_in h) (fun i hi => by rw [rd_nat _ i (by omega), guessV_get, flat_at d h0 h1 _ i hi]) a s c _ _ d true h' 0 (by omega)
    have hj : Ev (fun k => laws_FnGuesses.j2 k d (m : Int) (guessV (m : Int) a s c) (guessV (m : Int) (List.replicate 8 d) (List.replicate 8 d) d) false a s c (List.replicate 8 d) (List.replicate 8 d) d) true := Ev.step (fun k => by simp only [laws_FnGuesses.j2, Bool.false_eq_true, if_false] <;> rfl) hz
    refine Ev.step (fun k => by simp only [laws_FnGuesses.l1]; rw [if_pos (by omega)]) (Ev.bind g1 (Ev.bind g2 ?_))
    refine Ev.congr (fun k => ?_) hj
    rw [if_pos (by omega), show (((guessV (m : Int) (List.replicate 8 d) (List.replicate 8 d) d).length : Int) != 64) = false by rw [bne_eq_false_iff_eq]; omega]
theorem guesses_l0 (d : Int) (h0 : 0 ≤ d) (h1 : d ≤ 255) (a s : List Int) (c : Int) (h : EdR a s c) :
    ∀ i : Nat, i ≤ 8 → Ev (fun k => laws_FnGuesses.l0 k d (i : Int) a s c (List.replicate i d) (List.replicate i d) d) true := by
  refine down 8 ?_ ?_
  · refine Ev.step (fun k => ?_) (guesses_l1 d h0 h1 a s c h 0 (by omega))
    simp only [laws_FnGuesses.l0]
    rw [if_neg (by omega)]; rfl
  · intro i hi h'
    refine Ev.step (fun k => ?_) h'
    simp only [laws_FnGuesses.l0]
    rw [if_pos (by omega), if_pos (by simp; omega), if_pos (by simp; omega), wrap_id (by omega) (by omega), cast1, ← List.replicate_succ']
theorem FnGuesses : laws_FnGuesses.Pure := by
  intro l _ hl _
  rw [Nat.mul_one] at hl
  refine Ev.rounds ?_
  unfold laws_FnGuesses.f laws_big.f
  simp only [Option.bind_some]
  by_cases c : (l.length : Int) > 1048576
  · simp only [c, decide_true, if_true]; exact Ev.now _
  · simp only [c, decide_false, Bool.false_eq_true, if_false]
    obtain ⟨a, s, e, he, hr⟩ := drawedges_ev l hl
    obtain ⟨p, hp, lp, bp⟩ := places_ev l hl
    have r0 := rd_mem bp 0 (by omega) (by omega)
    have hd : Int.tmod (rd p 0) 256 = rd p 0 % 256 := Int.tmod_eq_emod_of_nonneg r0.1
    refine Ev.bind he (Ev.bind hp ?_)
    simp only [hd]
    refine Ev.congr (fun k => ?_) (guesses_l0 (rd p 0 % 256) (by omega) (by omega) a s e hr 0 (by omega))
    rw [if_pos (by omega)]; rfl

end Go.Proofs.Ytoenibjkjohbbaa.Pure
