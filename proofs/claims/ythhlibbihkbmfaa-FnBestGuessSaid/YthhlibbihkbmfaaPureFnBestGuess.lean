/- For all codes: what is told as the best guess of drawn dots costs what it is told to cost, and no other guess costs less, nor as much ahead of it. The only condition is the row's own bound of the code's length. -/
import Derived.Test.YthhlibbihkbmfaaQFnBestGuessx9
namespace Go.Proofs.Ythhlibbihkbmfaa.Pure
open Go.RowKit Go.Proofs.Ythhlibbihkbmfaa.QFnBestGuess Go.Proofs.YthhlibbihkbmfaaW.PrintWords Go.Proofs.YthhlibbihkbmfaaW.PrintLast Go.Proofs.YthhlibbihkbmfaaW.PrintMore
set_option linter.unusedVariables false
set_option linter.unusedSimpArgs false
theorem wrap_id {x : Int} (h0 : -9223372036854775808 ≤ x) (h1 : x ≤ 9223372036854775807) : wrap64 x = x := by
 unfold wrap64
 omega
theorem within_eq (a b c : Int) : impl_within.f a b c = some (decide (b ≤ a ∧ a ≤ c)) := by
 unfold impl_within.f
 by_cases h : a ≥ b
 ·rw [if_pos h]; congr 1; rw [decide_eq_decide]; omega
 ·rw [if_neg h]; congr 1; symm; rw [decide_eq_false_iff_not]; omega
theorem in_eq (a b c : Int) : spec_l01In.f a b c = some (decide (b ≤ a ∧ a ≤ c)) := by
 unfold spec_l01In.f
 by_cases h : a ≥ b
 ·rw [if_pos h]; congr 1; rw [decide_eq_decide]; omega
 ·rw [if_neg h]; congr 1; symm; rw [decide_eq_false_iff_not]; omega
theorem down {P : Nat → Prop} (n : Nat) (h0 : P n) (hs : ∀ i, i < n → P (i + 1) → P i) : ∀ i, i ≤ n → P i := by
 intro i hi
 obtain ⟨d, hd⟩ : ∃ d, d = n - i := ⟨_, rfl⟩
 induction d generalizing i with
 | zero =>
  have : i = n := by omega
  subst this; exact h0
 | succ d ih => exact hs i (by omega) (ih (i + 1) (by omega) (by omega))
theorem rd_nat (l : List Int) (i : Nat) (h : i < l.length) : rd l (i : Int) = l[i] := by
 unfold rd
 rw [List.getD_eq_getElem?_getD, Int.toNat_natCast, List.getElem?_eq_getElem h]; rfl
theorem cast1 (i : Nat) : ((i : Nat) : Int) + 1 = ((i + 1 : Nat) : Int) := rfl
theorem mix_set {α : Type} (l z : List α) (i : Nat) (hi : i < l.length) (hz : i < z.length) : (l.take i ++ z.drop i).set i l[i] = l.take (i + 1) ++ z.drop (i + 1) := by
 rw [List.set_append_right _ _ (by simp; omega)]
 rw [show i - (l.take i).length = 0 by simp; omega]
 rw [List.drop_eq_getElem_cons hz, List.set_cons_zero, List.take_succ_eq_append_getElem hi, List.append_assoc]; rfl
theorem mix_length {α : Type} (l z : List α) (i : Nat) (h : l.length = z.length) (hi : i ≤ l.length) : (l.take i ++ z.drop i).length = l.length := by
 simp; omega
theorem mix_end {α : Type} (l z : List α) (h : l.length = z.length) : l.take l.length ++ z.drop l.length = l := by
 rw [List.take_length, h, List.drop_length, List.append_nil]
theorem mix_zero {α : Type} (l z : List α) : l.take 0 ++ z.drop 0 = z := by simp
theorem drop_cons {α : Type} {l : List α} {i : Nat} (h : i < l.length) : l.drop i = l[i] :: l.drop (i + 1) := List.drop_eq_getElem_cons h
/-- All numbers of a list are from lo to hi. -/
def allB (lo hi : Int) (l : List Int) : Bool := l.all fun x => decide (lo ≤ x ∧ x ≤ hi)
theorem allB_cons (lo hi x : Int) (l : List Int) : allB lo hi (x :: l) = (decide (lo ≤ x ∧ x ≤ hi) && allB lo hi l) := rfl
theorem allB_iff {lo hi : Int} {l : List Int} : allB lo hi l = true ↔ ∀ x ∈ l, lo ≤ x ∧ x ≤ hi := by
 unfold allB
 rw [List.all_eq_true]
 simp only [decide_eq_true_eq]
theorem areIn_ev (l : List Int) (n lo hi : Int) (hl : l.length ≤ 17592186043904) : Ev (fun k => impl_areIn.f k l n lo hi) (decide ((l.length : Int) = n) && allB lo hi l) := by
 have H : ∀ i, i ≤ l.length → Ev (fun k => impl_areIn.l0 k l n lo hi l (l.length : Int) (i : Int)) (decide ((l.length : Int) = n) && allB lo hi (l.drop i)) := by
  refine down l.length ?_ ?_
  ·refine Ev.step (f := fun _ => some (decide ((l.length : Int) = n))) (fun k => ?_) ?_
   ·simp only [impl_areIn.l0]
    rw [if_neg (by omega)]; congr 1
   ·rw [List.drop_length]; simp only [allB, List.all_nil, Bool.and_true]; exact Ev.now _
  ·intro i h1 h
   rw [drop_cons h1, allB_cons]
   by_cases c : lo ≤ l[i] ∧ l[i] ≤ hi
   ·rw [decide_eq_true c, Bool.true_and]
    refine Ev.step (fun k => ?_) h
    simp only [impl_areIn.l0]
    rw [if_pos (by omega), if_pos (by omega), if_pos (by omega), rd_nat l i h1, within_eq, Option.bind_some, if_pos (decide_eq_true c), wrap_id (by omega) (by omega), cast1]
   ·rw [decide_eq_false c, Bool.false_and, Bool.and_false]
    refine Ev.step (f := fun _ => some false) (fun k => ?_) (Ev.now _)
    simp only [impl_areIn.l0]
    rw [if_pos (by omega), if_pos (by omega), if_pos (by omega), rd_nat l i h1, within_eq, Option.bind_some, if_neg (by simpa using c)]
 exact H 0 (by omega)
theorem all_ev (l : List Int) (n m : Int) (hl : l.length ≤ 17592186043904) (hm : 0 ≤ m) (hm' : m ≤ 1000000000) : Ev (fun k => spec_l09All.f k l n m) (decide ((l.length : Int) = n) && allB (-m) m l) := by
 unfold spec_l09All.f
 by_cases hn : (l.length : Int) = n
 ·subst hn
  have H : ∀ i, i ≤ l.length → Ev (fun k => spec_l09All.l0 k l (l.length : Int) m (i : Int)) (allB (-m) m (l.drop i)) := by
   refine down l.length ?_ ?_
   ·refine Ev.step (f := fun _ => some true) (fun k => ?_) ?_
    ·simp only [spec_l09All.l0]
     rw [if_neg (by omega)]
    ·rw [List.drop_length]; exact Ev.now _
   ·intro i h1 h
    rw [drop_cons h1, allB_cons]
    by_cases c : -m ≤ l[i] ∧ l[i] ≤ m
    ·rw [decide_eq_true c, Bool.true_and]
     refine Ev.step (fun k => ?_) h
     simp only [spec_l09All.l0]
     rw [if_pos (by omega), if_pos (by omega), if_pos (by omega), rd_nat l i h1, wrap_id (x := -m) (by omega) (by omega), in_eq, Option.bind_some, if_pos (decide_eq_true c), wrap_id (by omega) (by omega), cast1]
    ·rw [decide_eq_false c, Bool.false_and]
     refine Ev.step (f := fun _ => some false) (fun k => ?_) (Ev.now _)
     simp only [spec_l09All.l0]
     rw [if_pos (by omega), if_pos (by omega), if_pos (by omega), rd_nat l i h1, wrap_id (x := -m) (by omega) (by omega), in_eq, Option.bind_some, if_neg (by simpa using c)]
  refine Ev.congr (fun k => by rw [if_pos rfl]) ?_
  rw [decide_eq_true rfl, Bool.true_and]
  exact H 0 (by omega)
 ·rw [decide_eq_false hn, Bool.false_and]
  exact Ev.congr (f := fun _ => some false) (fun k => by rw [if_neg hn]) (Ev.now _)
/-- A side of edges is right: nothing, or eight dots. -/
def sideB (l : List Int) : Bool := decide (l.length = 0) || (decide (l.length = 8) && allB 0 255 l)
def edgesB (a l : List Int) (c : Int) : Bool := sideB a && (sideB l && decide (-1 ≤ c ∧ c ≤ 255))
theorem len_dec' (l : List Int) (n : Nat) (m : Int) (h : m = (n : Int)) : decide ((l.length : Int) = m) = decide (l.length = n) := by rw [decide_eq_decide]; omega
theorem side_loop (l : List Int) (hl : l.length ≤ 17592186043904) : ∀ i, i ≤ l.length → Ev (fun k => spec_l13Side.l0 k l (i : Int)) (allB 0 255 (l.drop i)) := by
 refine down l.length ?_ ?_
 ·refine Ev.step (f := fun _ => some true) (fun k => ?_) (by rw [List.drop_length]; exact Ev.now _)
  simp only [spec_l13Side.l0]
  rw [if_neg (by omega)]
 ·intro i h1 h
  rw [drop_cons h1, allB_cons]
  by_cases c : 0 ≤ l[i] ∧ l[i] ≤ 255
  ·rw [decide_eq_true c, Bool.true_and]
   refine Ev.step (fun k => ?_) h
   simp only [spec_l13Side.l0]
   rw [if_pos (by omega), if_pos (by omega), rd_nat l i h1, in_eq, Option.bind_some, if_pos (decide_eq_true c), wrap_id (by omega) (by omega), cast1]
  ·rw [decide_eq_false c, Bool.false_and]
   refine Ev.step (f := fun _ => some false) (fun k => ?_) (Ev.now _)
   simp only [spec_l13Side.l0]
   rw [if_pos (by omega), if_pos (by omega), rd_nat l i h1, in_eq, Option.bind_some, if_neg (by simpa using c)]
theorem side_ev (l : List Int) (hl : l.length ≤ 17592186043904) : Ev (fun k => spec_l13Side.f k l) (sideB l) := by
 unfold spec_l13Side.f sideB
 by_cases c0 : l.length = 0
 ·have e : l = [] := List.eq_nil_of_length_eq_zero c0
  subst e
  refine Ev.congr (f := fun k => spec_l13Side.j0 k [] false) (fun k => rfl) (Ev.step (fun k => by simp only [spec_l13Side.j0, Bool.false_eq_true, if_false]; rfl) ?_)
  exact side_loop [] (by simp) 0 (by simp)
 ·rw [decide_eq_false c0, Bool.false_or]
  by_cases c8 : l.length = 8
  ·rw [decide_eq_true c8, Bool.true_and]
   refine Ev.congr (fun k => by rw [if_neg (by omega), show ((l.length : Int) != 8) = false by rw [bne_eq_false_iff_eq]; omega]) (Ev.step (fun k => by simp only [spec_l13Side.j0, Bool.false_eq_true, if_false]; rfl) ?_)
   exact side_loop l hl 0 (by omega)
  ·rw [decide_eq_false c8, Bool.false_and]
   refine Ev.congr (fun k => by rw [if_neg (by omega), show ((l.length : Int) != 8) = true by rw [bne_iff_ne]; omega]) (Ev.step (f := fun _ => some false) (fun k => by simp only [spec_l13Side.j0]; rfl) (Ev.now _))
theorem sedges_ev (a l : List Int) (c : Int) (ha : a.length ≤ 17592186043904) (hl : l.length ≤ 17592186043904) : Ev (fun k => spec_EdgesOk.f k a l c) (edgesB a l c) := by
 unfold spec_EdgesOk.f edgesB
 refine Ev.bind (side_ev a ha) ?_
 cases sideB a with
 | false => simp only [Bool.false_eq_true, if_false, Bool.false_and]; exact Ev.now _
 | true =>
  simp only [if_true, Bool.true_and]
  refine Ev.bind (side_ev l hl) ?_
  cases sideB l with
  | false => simp only [Bool.false_eq_true, if_false, Bool.false_and]; exact Ev.now _
  | true =>
   simp only [if_true, Bool.true_and, in_eq, Option.bind_some]
   exact Ev.now _
theorem edge_round (a b l : List Int) (c : Int) (i : Int) (r : Bool) (x y : List Int) (hx : rd_L2 [x, y] i = a) (hi : i = 0 ∨ i = 1) (ha : a.length ≤ 17592186043904)
  (h : Ev (fun k => impl_EdgesOk.l0 k [x, y] 2 (i + 1) b l c) r) : Ev (fun k => impl_EdgesOk.l0 k [x, y] 2 i b l c) (sideB a && r) := by
 unfold sideB
 have hlen : (([x, y] : List (List Int)).length : Int) = 2 := rfl
 by_cases c0 : a.length = 0
 ·rw [decide_eq_true c0, Bool.true_or, Bool.true_and]
  refine Ev.step (fun k => ?_) h
  simp only [impl_EdgesOk.l0]
  rw [if_pos (by omega), if_pos (by omega), if_pos (by omega), hx, if_neg (by omega), wrap_id (by omega) (by omega)]
 ·rw [decide_eq_false c0, Bool.false_or]
  refine Ev.step (f := fun k => (impl_areIn.f k a 8 0 255).bind fun t => (if t = true then (impl_EdgesOk.l0 k [x, y] 2 (i + 1) b l c) else (some false))) (fun k => ?_) (Ev.bind (areIn_ev a 8 0 255 ha) ?_)
  ·simp only [impl_EdgesOk.l0]
   rw [if_pos (by omega), if_pos (by omega), if_pos (by omega), hx, if_pos (by omega), wrap_id (by omega) (by omega)]
  ·rw [len_dec' a 8 8 rfl]
   cases (decide (a.length = 8) && allB 0 255 a) with
   | false => simp only [Bool.false_eq_true, if_false, Bool.false_and]; exact Ev.now _
   | true => simp only [if_true, Bool.true_and]; exact h
theorem edges_ev (a l : List Int) (c : Int) (ha : a.length ≤ 17592186043904) (hl : l.length ≤ 17592186043904) : Ev (fun k => impl_EdgesOk.f k a l c) (edgesB a l c) := by
 unfold impl_EdgesOk.f edgesB
 simp only [Option.bind_some]
 refine edge_round a a l c 0 _ a l rfl (.inl rfl) ha ?_
 refine edge_round l a l c 1 _ a l rfl (.inr rfl) hl ?_
 refine Ev.step (f := fun _ => some (decide (-1 ≤ c ∧ c ≤ 255))) (fun k => ?_) (Ev.now _)
 simp only [impl_EdgesOk.l0]
 rw [if_neg (by omega), within_eq]
 rfl
/-- What a right picture is. -/
def PicR (w h : Int) (d : ByteArray) : Prop := (1 ≤ w ∧ w ≤ 256) ∧ (1 ≤ h ∧ h ≤ 256) ∧ (d.size : Int) = w * h
instance (w h : Int) (d : ByteArray) : Decidable (PicR w h d) := by unfold PicR; infer_instance
theorem brought_ev (n lo hi : Int) : Ev (fun k => spec_Brought.f k n lo hi) (mx lo (mn n hi)) := by
 unfold spec_Brought.f
 unfold mx mn
 by_cases c : hi < lo
 ·refine Ev.congr (fun k => by rw [if_pos c]) (Ev.step (f := fun _ => some lo) (fun k => by simp only [spec_Brought.j0]; rfl) ?_)
  have e : (if lo < (if hi < n then hi else n) then (if hi < n then hi else n) else lo) = lo := by repeat' split <;> omega
  rw [e]; exact Ev.now _
 ·by_cases c2 : n < lo
  ·refine Ev.congr (fun k => by rw [if_neg c, show decide (n < lo) = true from decide_eq_true c2]) (Ev.step (f := fun _ => some lo) (fun k => by simp only [spec_Brought.j0]; rfl) ?_)
   have e : (if lo < (if hi < n then hi else n) then (if hi < n then hi else n) else lo) = lo := by repeat' split <;> omega
   rw [e]; exact Ev.now _
  ·refine Ev.congr (fun k => by rw [if_neg c, show decide (n < lo) = false from decide_eq_false c2]) (Ev.step (f := fun _ => if n > hi then some hi else some n) (fun k => by simp only [spec_Brought.j0]; rfl) ?_)
   by_cases c3 : n > hi
   ·have e : (if lo < (if hi < n then hi else n) then (if hi < n then hi else n) else lo) = hi := by repeat' split <;> omega
    rw [e]; simp only [c3, if_true]; exact Ev.now _
   ·have e : (if lo < (if hi < n then hi else n) then (if hi < n then hi else n) else lo) = n := by repeat' split <;> omega
    rw [e]; simp only [c3, if_false]; exact Ev.now _
theorem mx0 {n hi : Int} (h : 0 ≤ hi) : 0 ≤ mx 0 (mn n hi) ∧ mx 0 (mn n hi) ≤ hi := by unfold mx mn; repeat' split <;> omega
def isum : List Int → Int
 | [] => 0
 | x :: l => x + isum l
theorem isum_bound (l : List Int) (h : ∀ x ∈ l, 0 ≤ x ∧ x ≤ 255) : 0 ≤ isum l ∧ isum l ≤ 255 * (l.length : Int) := by
 induction l with
 | nil => simp [isum]
 | cons x l ih =>
  have h1 := h x (by simp)
  have h2 := ih (fun y hy => h y (by simp [hy]))
  simp only [isum, List.length_cons]
  omega
def orG (l : List Int) : List Int := if l.length = 0 then [128, 128, 128, 128, 128, 128, 128, 128] else l
def midV (a l : List Int) : Int := if a.length + l.length = 0 then 128 else (isum a + isum l + ((a.length + l.length : Nat) : Int) / 2) / ((a.length + l.length : Nat) : Int)
def cornG (c : Int) : Int := if c < 0 then 128 else c
def guessAt (mode : Int) (a l : List Int) (c : Int) (i : Nat) : Int :=
 if mode = 0 then midV a l else if mode = 1 then rd (orG a) ((i % 8 : Nat) : Int) else if mode = 2 then rd (orG l) ((i / 8 : Nat) : Int) else mx 0 (mn (rd (orG l) ((i / 8 : Nat) : Int) + rd (orG a) ((i % 8 : Nat) : Int) - cornG c) 255)
def guessV (mode : Int) (a l : List Int) (c : Int) : List Int := (List.range 64).map (guessAt mode a l c)
theorem guessV_len (mode : Int) (a l : List Int) (c : Int) : (guessV mode a l c).length = 64 := by simp [guessV]
theorem guessV_get (mode : Int) (a l : List Int) (c : Int) (i : Nat) (h : i < (guessV mode a l c).length) : (guessV mode a l c)[i] = guessAt mode a l c i := by simp [guessV]
def guessR (mode : Int) (a l : List Int) (c : Int) : List Int := if edgesB a l c = true ∧ 0 ≤ mode ∧ mode ≤ 3 then guessV mode a l c else []
/-- What right edges are. -/
structure EdR (a l : List Int) (c : Int) : Prop where
 la : a.length = 0 ∨ a.length = 8
 ll : l.length = 0 ∨ l.length = 8
 ba : ∀ x ∈ a, 0 ≤ x ∧ x ≤ 255
 bl : ∀ x ∈ l, 0 ≤ x ∧ x ≤ 255
 bc : -1 ≤ c ∧ c ≤ 255
theorem sideB_iff {l : List Int} (h : sideB l = true) : (l.length = 0 ∨ l.length = 8) ∧ ∀ x ∈ l, 0 ≤ x ∧ x ≤ 255 := by
 unfold sideB at h
 rw [Bool.or_eq_true, Bool.and_eq_true, decide_eq_true_eq, decide_eq_true_eq] at h
 rcases h with h | ⟨h, hb⟩
 ·exact ⟨.inl h, fun x hx => by rw [List.eq_nil_of_length_eq_zero h] at hx; simp at hx⟩
 ·exact ⟨.inr h, allB_iff.1 hb⟩
theorem edgesB_right {a l : List Int} {c : Int} (h : edgesB a l c = true) : EdR a l c := by
 unfold edgesB at h
 rw [Bool.and_eq_true, Bool.and_eq_true, decide_eq_true_eq] at h
 have h1 := sideB_iff h.1
 have h2 := sideB_iff h.2.1
 exact ⟨h1.1, h2.1, h1.2, h2.2, h.2.2⟩
theorem right_sideB {l : List Int} (h : l.length = 0 ∨ l.length = 8) (hb : ∀ x ∈ l, 0 ≤ x ∧ x ≤ 255) : sideB l = true := by
 unfold sideB
 rw [Bool.or_eq_true, Bool.and_eq_true, decide_eq_true_eq, decide_eq_true_eq]
 rcases h with h | h
 ·exact .inl h
 ·exact .inr ⟨h, allB_iff.2 hb⟩
theorem right_edgesB {a l : List Int} {c : Int} (h : EdR a l c) : edgesB a l c = true := by
 unfold edgesB
 rw [Bool.and_eq_true, Bool.and_eq_true, decide_eq_true_eq]
 exact ⟨right_sideB h.la h.ba, right_sideB h.ll h.bl, h.bc⟩
theorem orG_len {l : List Int} (h : l.length = 0 ∨ l.length = 8) : (orG l).length = 8 := by
 unfold orG
 rcases h with h | h
 ·rw [if_pos h]; rfl
 ·rw [if_neg (by omega)]; exact h
theorem orG_in {l : List Int} (hb : ∀ x ∈ l, 0 ≤ x ∧ x ≤ 255) : ∀ x ∈ orG l, 0 ≤ x ∧ x ≤ 255 := by
 unfold orG
 split
 ·intro x hx; simp at hx; omega
 ·exact hb
theorem orG_rd {l : List Int} (h : l.length = 0 ∨ l.length = 8) (hb : ∀ x ∈ l, 0 ≤ x ∧ x ≤ 255) (i : Nat) (hi : i < 8) : 0 ≤ rd (orG l) (i : Int) ∧ rd (orG l) (i : Int) ≤ 255 := by
 rw [rd_nat _ i (by rw [orG_len h]; exact hi)]
 exact orG_in hb _ (List.getElem_mem _)
theorem midV_in {a l : List Int} {c : Int} (h : EdR a l c) : 0 ≤ midV a l ∧ midV a l ≤ 255 := by
 unfold midV
 have h1 := isum_bound a h.ba
 have h2 := isum_bound l h.bl
 by_cases c0 : a.length + l.length = 0
 ·rw [if_pos c0]; omega
 ·rw [if_neg c0]
  have hn : a.length + l.length = 8 ∨ a.length + l.length = 16 := by rcases h.la with e | e <;> rcases h.ll with e' | e' <;> omega
  rcases hn with e | e <;> rw [e] <;> omega
theorem guessAt_in {a l : List Int} {c mode : Int} (h : EdR a l c) (i : Nat) (hi : i < 64) : 0 ≤ guessAt mode a l c i ∧ guessAt mode a l c i ≤ 255 := by
 unfold guessAt
 have h1 := midV_in h
 have h2 := orG_rd h.la h.ba (i % 8) (by omega)
 have h3 := orG_rd h.ll h.bl (i / 8) (by omega)
 repeat' split
 ·exact h1
 ·exact h2
 ·exact h3
 ·exact mx0 (by omega)
theorem guessV_in {a l : List Int} {c mode : Int} (h : EdR a l c) : ∀ x ∈ guessV mode a l c, 0 ≤ x ∧ x ≤ 255 := by
 intro x hx
 obtain ⟨i, hi, rfl⟩ := List.mem_iff_getElem.1 hx
 rw [guessV_get]
 exact guessAt_in h i (by rw [guessV_len] at hi; exact hi)
theorem sumof_ev (l : List Int) (hl : l.length ≤ 8) (hb : ∀ x ∈ l, 0 ≤ x ∧ x ≤ 255) : Ev (fun k => impl_sumOf.f k l) (isum l) := by
 have H : ∀ i, i ≤ l.length → ∀ s : Int, 0 ≤ s → s ≤ 255 * (i : Int) → Ev (fun k => impl_sumOf.l0 k s l (l.length : Int) (i : Int)) (s + isum (l.drop i)) := by
  refine down l.length ?_ ?_
  ·intro s _ _
   rw [List.drop_length, isum, Int.add_zero]
   refine Ev.step (f := fun _ => some s) (fun k => ?_) (Ev.now _)
   simp only [impl_sumOf.l0]
   rw [if_neg (by omega)]
  ·intro i hi h s h0 h1
   have hx := hb _ (List.getElem_mem hi)
   have h' := h (s + l[i]) (by omega) (by omega)
   rw [drop_cons hi, isum, ← Int.add_assoc]
   refine Ev.step (fun k => ?_) h'
   simp only [impl_sumOf.l0]
   rw [if_pos (by omega), if_pos (by omega), if_pos (by omega), rd_nat l i hi, wrap_id (x := s + l[i]) (by omega) (by omega), wrap_id (by omega) (by omega), cast1]
 have h := H 0 (by omega) 0 (by omega) (by omega)
 rw [List.drop_zero, Int.zero_add] at h
 exact h
theorem orgrey_eq (l : List Int) : impl_orGrey.f l = some (orG l) := by
 unfold impl_orGrey.f orG
 by_cases c : l.length = 0
 ·rw [if_pos (by omega), if_pos c]
 ·rw [if_neg (by omega), if_neg c]
theorem guess_inner (mode : Int) (a l : List Int) (c : Int) (hm : 0 ≤ mode ∧ mode ≤ 3) (h : EdR a l c) (r : Nat) (hr : r < 8) (R : List Int)
  (hh : Ev (fun k => impl_GuessOf.l0 k mode ((guessV mode a l c).take (8 * (r + 1))) (midV a l) (orG a) (orG l) (cornG c) ((r + 1 : Nat) : Int)) R) :
  ∀ q : Nat, q ≤ 8 → Ev (fun k => impl_GuessOf.l1 k mode ((guessV mode a l c).take (8 * r + q)) (midV a l) (orG a) (orG l) (cornG c) (r : Int) (r : Int) (q : Int)) R := by
 have hl := guessV_len mode a l c
 have lA := orG_len h.la
 have lL := orG_len h.ll
 have hc : 0 ≤ cornG c ∧ cornG c ≤ 255 := by unfold cornG; have := h.bc; split <;> omega
 refine down 8 ?_ ?_
 ·refine Ev.step (fun k => ?_) hh
  simp only [impl_GuessOf.l1]
  rw [if_neg (by omega), wrap_id (by omega) (by omega), cast1]; rfl
 ·intro q hq h'
  have e := guessV_get mode a l c (8 * r + q) (by omega)
  unfold guessAt at e
  rw [show (8 * r + q) % 8 = q by omega, show (8 * r + q) / 8 = r by omega] at e
  have r1 := orG_rd h.la h.ba q hq
  have r2 := orG_rd h.ll h.bl r hr
  have hlen : ((guessV mode a l c).take (8 * r + q)).length < 17592186044416 := by simp; omega
  refine Ev.step (fun k => ?_) h'
  simp only [impl_GuessOf.l1]
  rw [if_pos (by omega), wrap_id (x := (q : Int) + 1) (by omega) (by omega), cast1]
  by_cases m0 : mode = 0
  ·rw [if_pos m0] at e ⊢
   rw [if_pos hlen, ← e, ← List.take_succ_eq_append_getElem (by omega)]; rfl
  ·rw [if_neg m0] at e ⊢
   by_cases m1 : mode = 1
   ·rw [if_pos m1] at e ⊢
    rw [if_pos (by omega), if_pos (by omega), if_pos hlen, ← e, ← List.take_succ_eq_append_getElem (by omega)]; rfl
   ·rw [if_neg m1] at e ⊢
    by_cases m2 : mode = 2
    ·rw [if_pos m2] at e ⊢
     rw [if_pos (by omega), if_pos (by omega), if_pos hlen, ← e, ← List.take_succ_eq_append_getElem (by omega)]; rfl
    ·rw [if_neg m2] at e ⊢
     rw [if_pos (by omega), if_pos (by omega), if_pos (by omega), if_pos (by omega), wrap_id (x := rd (orG l) (r : Int) + rd (orG a) (q : Int)) (by omega) (by omega), wrap_id (x := _ - cornG c) (by omega) (by omega)]
     unfold impl_Brought.f
     rw [Option.bind_some, if_pos hlen, ← e, ← List.take_succ_eq_append_getElem (by omega)]; rfl
theorem guess_rows (mode : Int) (a l : List Int) (c : Int) (hm : 0 ≤ mode ∧ mode ≤ 3) (h : EdR a l c) :
  ∀ r : Nat, r ≤ 8 → Ev (fun k => impl_GuessOf.l0 k mode ((guessV mode a l c).take (8 * r)) (midV a l) (orG a) (orG l) (cornG c) (r : Int)) (guessV mode a l c) := by
 have hl := guessV_len mode a l c
 refine down 8 ?_ ?_
 ·refine Ev.step (f := fun _ => some (guessV mode a l c)) (fun k => ?_) (Ev.now _)
  simp only [impl_GuessOf.l0]
  rw [if_neg (by omega), List.take_of_length_le (by omega)]
 ·intro r hr h'
  refine Ev.step (fun k => ?_) (guess_inner mode a l c hm h r hr _ h' 0 (by omega))
  simp only [impl_GuessOf.l0]
  rw [if_pos (by omega)]; rfl
theorem tdivn {x : Int} {n : Nat} (h : 0 ≤ x) : Int.tdiv x (n : Int) = x / (n : Int) := Int.tdiv_eq_ediv_of_nonneg h
theorem guess_j1 (mode : Int) (a l : List Int) (c : Int) (hm : 0 ≤ mode ∧ mode ≤ 3) (h : EdR a l c) : Ev (fun k => impl_GuessOf.j1 k mode [] (midV a l) a l c) (guessV mode a l c) := by
 have h0 := guess_rows mode a l c hm h 0 (by omega)
 have h1 : Ev (fun k => impl_GuessOf.j2 k mode [] (midV a l) (orG a) (orG l) (cornG c)) (guessV mode a l c) := Ev.step (fun k => by simp only [impl_GuessOf.j2] <;> rfl) h0
 refine Ev.step (fun k => ?_) h1
 simp only [impl_GuessOf.j1, orgrey_eq, Option.bind_some]
 unfold cornG
 by_cases c0 : c < 0
 ·rw [if_pos c0, if_pos c0]
 ·rw [if_neg c0, if_neg c0]
theorem guessof_ev (mode : Int) (a l : List Int) (c : Int) (ha : a.length ≤ 1048576) (hl : l.length ≤ 1048576) : Ev (fun k => impl_GuessOf.f k mode a l c) (guessR mode a l c) := by
 unfold impl_GuessOf.f guessR
 simp only [Option.bind_some, within_eq]
 have hbad : Ev (fun k => impl_GuessOf.j0 k mode [] true a l c) [] := Ev.step (f := fun _ => some []) (fun k => by simp only [impl_GuessOf.j0]; rfl) (Ev.now _)
 refine Ev.bind (edges_ev a l c (by omega) (by omega)) ?_
 by_cases he : edgesB a l c = true
 ·have h := edgesB_right he
  by_cases hm : 0 ≤ mode ∧ mode ≤ 3
  ·rw [if_pos ⟨he, hm⟩]
   simp only [he, hm, and_self, decide_true, if_true, Bool.not_true]
   have hj := guess_j1 mode a l c hm h
   have s1 := isum_bound a h.ba
   have s2 := isum_bound l h.bl
   have la : a.length ≤ 8 := by rcases h.la with e | e <;> omega
   have ll : l.length ≤ 8 := by rcases h.ll with e | e <;> omega
   have ew : wrap64 ((a.length : Int) + (l.length : Int)) = ((a.length + l.length : Nat) : Int) := by rw [wrap_id (by omega) (by omega)]; omega
   by_cases c0 : a.length + l.length = 0
   ·refine Ev.step (fun k => ?_) hj
    simp only [impl_GuessOf.j0, Bool.false_eq_true, if_false, ew]
    rw [if_neg (by omega)]
    unfold midV
    rw [if_pos c0]
   ·refine Ev.step (f := fun k => (impl_sumOf.f k a).bind fun t124 => ((impl_sumOf.f k l).bind fun t125 => impl_GuessOf.j1 k mode [] (wrap64 (Int.tdiv (wrap64 ((wrap64 (t124 + t125)) + (wrap64 (Int.tdiv ((a.length + l.length : Nat) : Int) 2)))) ((a.length + l.length : Nat) : Int))) a l c)) (fun k => ?_) (Ev.bind (sumof_ev a la h.ba) (Ev.bind (sumof_ev l ll h.bl) ?_))
    ·simp only [impl_GuessOf.j0, Bool.false_eq_true, if_false, ew]
     rw [if_pos (by omega)]
     simp only [show ¬ (((a.length + l.length : Nat) : Int) = 0) from by omega, if_false]
    ·have em : wrap64 (Int.tdiv (wrap64 ((wrap64 (isum a + isum l)) + (wrap64 (Int.tdiv ((a.length + l.length : Nat) : Int) 2)))) ((a.length + l.length : Nat) : Int)) = midV a l := by
      have hmid := midV_in h
      unfold midV at hmid ⊢
      rw [if_neg c0] at hmid ⊢
      have e2 : Int.tdiv ((a.length + l.length : Nat) : Int) 2 = ((a.length + l.length : Nat) : Int) / 2 := Int.tdiv_eq_ediv_of_nonneg (by omega)
      rw [e2, wrap_id (x := isum a + isum l) (by omega) (by omega), wrap_id (x := ((a.length + l.length : Nat) : Int) / 2) (by omega) (by omega), wrap_id (x := isum a + isum l + _) (by omega) (by omega), tdivn (by omega), wrap_id (by omega) (by omega)]
     rw [em]; exact hj
  ·rw [if_neg (fun h => hm h.2)]
   simp only [he, hm, decide_false, if_true, Bool.not_false]; exact hbad
 ·rw [if_neg (fun h => he h.1)]
  simp only [he, if_false]; exact hbad
theorem smid_l1 (a l : List Int) (c n : Int) (hn : n = 8 ∨ n = 16) (hl : l.length ≤ 8) (hb : ∀ x ∈ l, 0 ≤ x ∧ x ≤ 255) : ∀ i, i ≤ l.length → ∀ s : Int, 0 ≤ s → s ≤ 10000 + 255 * (i : Int) → Ev (fun k => spec_l13Mid.l1 k n s (i : Int) a l c) ((s + isum (l.drop i)) / n) := by
 refine down l.length ?_ ?_
 ·intro s h0 h1
  rw [List.drop_length, isum, Int.add_zero]
  refine Ev.step (f := fun _ => some (s / n)) (fun k => ?_) (Ev.now _)
  simp only [spec_l13Mid.l1]
  rw [if_neg (by omega), if_neg (by omega), Int.tdiv_eq_ediv_of_nonneg h0]
  congr 1
  rcases hn with e | e <;> subst e <;> exact wrap_id (by omega) (by omega)
 ·intro i hi h s h0 h1
  have hx := hb _ (List.getElem_mem hi)
  have h' := h (s + l[i]) (by omega) (by omega)
  rw [drop_cons hi, isum, ← Int.add_assoc]
  refine Ev.step (fun k => ?_) h'
  simp only [spec_l13Mid.l1]
  rw [if_pos (by omega), if_pos (by omega), rd_nat l i hi, wrap_id (x := s + l[i]) (by omega) (by omega), wrap_id (by omega) (by omega), cast1]
theorem smid_l0 (a l : List Int) (c n : Int) (hn : n = 8 ∨ n = 16) (ha : a.length ≤ 8) (hl : l.length ≤ 8) (hba : ∀ x ∈ a, 0 ≤ x ∧ x ≤ 255) (hb : ∀ x ∈ l, 0 ≤ x ∧ x ≤ 255) : ∀ i, i ≤ a.length → ∀ s : Int, 0 ≤ s → s ≤ 1000 + 255 * (i : Int) → Ev (fun k => spec_l13Mid.l0 k n s (i : Int) a l c) ((s + isum (a.drop i) + isum l) / n) := by
 refine down a.length ?_ ?_
 ·intro s h0 h1
  rw [List.drop_length, isum, Int.add_zero]
  have h' := smid_l1 a l c n hn hl hb 0 (by omega) s h0 (by omega)
  rw [List.drop_zero] at h'
  refine Ev.step (fun k => ?_) h'
  simp only [spec_l13Mid.l0]
  rw [if_neg (by omega)]; rfl
 ·intro i hi h s h0 h1
  have hx := hba _ (List.getElem_mem hi)
  have h' := h (s + a[i]) (by omega) (by omega)
  rw [drop_cons hi, isum, ← Int.add_assoc]
  refine Ev.step (fun k => ?_) h'
  simp only [spec_l13Mid.l0]
  rw [if_pos (by omega), if_pos (by omega), rd_nat a i hi, wrap_id (x := s + a[i]) (by omega) (by omega), wrap_id (by omega) (by omega), cast1]
theorem smid_ev (a l : List Int) (c : Int) (h : EdR a l c) : Ev (fun k => spec_l13Mid.f k a l c) (midV a l) := by
 have la : a.length ≤ 8 := by rcases h.la with e | e <;> omega
 have ll : l.length ≤ 8 := by rcases h.ll with e | e <;> omega
 have ew : wrap64 ((a.length : Int) + (l.length : Int)) = ((a.length + l.length : Nat) : Int) := by rw [wrap_id (by omega) (by omega)]; omega
 unfold spec_l13Mid.f midV
 rw [ew]
 by_cases c0 : a.length + l.length = 0
 ·rw [if_pos c0]
  exact Ev.congr (f := fun _ => some 128) (fun k => by rw [if_pos (by omega)]) (Ev.now _)
 ·rw [if_neg c0]
  have hn : ((a.length + l.length : Nat) : Int) = 8 ∨ ((a.length + l.length : Nat) : Int) = 16 := by rcases h.la with e | e <;> rcases h.ll with e' | e' <;> omega
  have e2 : Int.tdiv ((a.length + l.length : Nat) : Int) 2 = ((a.length + l.length : Nat) : Int) / 2 := Int.tdiv_eq_ediv_of_nonneg (by omega)
  have h' := smid_l0 a l c _ hn la ll h.ba h.bl 0 (by omega) (((a.length + l.length : Nat) : Int) / 2) (by omega) (by omega)
  rw [List.drop_zero] at h'
  rw [show isum a + isum l + ((a.length + l.length : Nat) : Int) / 2 = ((a.length + l.length : Nat) : Int) / 2 + isum a + isum l by omega]
  refine Ev.congr (fun k => ?_) h'
  rw [if_neg (by omega), e2, wrap_id (by omega) (by omega)]; rfl
theorem filled_eq {l : List Int} (h : l.length = 0 ∨ l.length = 8) (i : Nat) (hi : i < 8) : spec_l13Filled.f l (i : Int) = some (rd (orG l) (i : Int)) := by
 unfold spec_l13Filled.f orG
 by_cases c : l.length = 0
 ·rw [if_pos (by omega), if_pos c]
  congr 1
  have : ∀ j : Fin 8, (128 : Int) = rd [128, 128, 128, 128, 128, 128, 128, 128] (j.val : Int) := by decide +kernel
  exact this ⟨i, hi⟩
 ·rw [if_neg (by omega), if_neg c, if_pos (by omega), if_pos (by omega)]
theorem sguess_loop (mode : Int) (a l : List Int) (c : Int) (hm : 0 ≤ mode ∧ mode ≤ 3) (h : EdR a l c) :
  ∀ i : Nat, i ≤ 64 → Ev (fun k => spec_GuessOf.l0 k mode ((guessV mode a l c).take i) (cornG c) (i : Int) a l c) (guessV mode a l c) := by
 have hl := guessV_len mode a l c
 have hc : 0 ≤ cornG c ∧ cornG c ≤ 255 := by unfold cornG; have := h.bc; split <;> omega
 refine down 64 ?_ ?_
 ·refine Ev.step (f := fun _ => some (guessV mode a l c)) (fun k => ?_) (Ev.now _)
  simp only [spec_GuessOf.l0]
  rw [if_neg (by omega), List.take_of_length_le (by omega)]
 ·intro i hi h'
  have m1 : Int.tmod (i : Int) 8 = ((i % 8 : Nat) : Int) := by rw [Int.tmod_eq_emod_of_nonneg (by omega)]; omega
  have m2 : Int.tdiv (i : Int) 8 = ((i / 8 : Nat) : Int) := by rw [Int.tdiv_eq_ediv_of_nonneg (by omega)]; omega
  have hlen : ((guessV mode a l c).take i).length < 17592186044416 := by rw [List.length_take]; omega
  have p1 : (i : Int) < 64 := by omega
  have hli : i < (guessV mode a l c).length := by omega
  have q1 : i % 8 < 8 := by omega
  have q2 : i / 8 < 8 := by omega
  have f1 := filled_eq h.la (i % 8) q1
  have f2 := filled_eq h.ll (i / 8) q2
  have w3 : wrap64 (wrap64 (rd (orG l) ((i / 8 : Nat) : Int) + rd (orG a) ((i % 8 : Nat) : Int)) - cornG c) = rd (orG l) ((i / 8 : Nat) : Int) + rd (orG a) ((i % 8 : Nat) : Int) - cornG c := by
   have r1 := orG_rd h.la h.ba (i % 8) q1
   have r2 := orG_rd h.ll h.bl (i / 8) q2
   generalize rd (orG l) ((i / 8 : Nat) : Int) = u at r2 ⊢
   generalize rd (orG a) ((i % 8 : Nat) : Int) = v at r1 ⊢
   rw [wrap_id (x := u + v) (by omega) (by omega), wrap_id (by omega) (by omega)]
  have w2 : wrap64 ((i / 8 : Nat) : Int) = ((i / 8 : Nat) : Int) := wrap_id (by omega) (by omega)
  have w1 : wrap64 ((i : Int) + 1) = ((i + 1 : Nat) : Int) := by clear w2 w3; exact wrap_id (by omega) (by omega)
  have e := guessV_get mode a l c i hli
  unfold guessAt at e
  by_cases m0 : mode = 0
  ·rw [if_pos m0] at e
   refine Ev.step (f := fun k => (spec_l13Mid.f k a l c).bind fun t => (if ((guessV mode a l c).take i).length < 17592186044416 then (spec_GuessOf.l0 k mode ((guessV mode a l c).take i ++ [t]) (cornG c) ((i + 1 : Nat) : Int) a l c) else (none))) (fun k => ?_) (Ev.bind (smid_ev a l c h) ?_)
   ·simp only [spec_GuessOf.l0]
    rw [if_pos p1, m1, m2, w2, f1, Option.bind_some, f2, Option.bind_some, if_pos m0, w1]
   ·refine Ev.congr (fun k => ?_) h'
    rw [if_pos hlen, ← e, ← List.take_succ_eq_append_getElem hli]
  ·rw [if_neg m0] at e
   by_cases m1' : mode = 1
   ·rw [if_pos m1'] at e
    refine Ev.step (fun k => ?_) h'
    simp only [spec_GuessOf.l0]
    rw [if_pos p1, m1, m2, w2, f1, Option.bind_some, f2, Option.bind_some, if_neg m0, if_pos m1', w1, if_pos hlen, ← e, ← List.take_succ_eq_append_getElem hli]
   ·rw [if_neg m1'] at e
    by_cases m2' : mode = 2
    ·rw [if_pos m2'] at e
     refine Ev.step (fun k => ?_) h'
     simp only [spec_GuessOf.l0]
     rw [if_pos p1, m1, m2, w2, f1, Option.bind_some, f2, Option.bind_some, if_neg m0, if_neg m1', if_pos m2', w1, if_pos hlen, ← e, ← List.take_succ_eq_append_getElem hli]
    ·rw [if_neg m2'] at e
     have hb := brought_ev (rd (orG l) ((i / 8 : Nat) : Int) + rd (orG a) ((i % 8 : Nat) : Int) - cornG c) 0 255
     refine Ev.step (f := fun k => (spec_Brought.f k (rd (orG l) ((i / 8 : Nat) : Int) + rd (orG a) ((i % 8 : Nat) : Int) - cornG c) 0 255).bind fun t => (if ((guessV mode a l c).take i).length < 17592186044416 then (spec_GuessOf.l0 k mode ((guessV mode a l c).take i ++ [t]) (cornG c) ((i + 1 : Nat) : Int) a l c) else (none))) (fun k => ?_) (Ev.bind hb ?_)
     ·simp only [spec_GuessOf.l0]
      rw [if_pos p1, m1, m2, w2, f1, Option.bind_some, f2, Option.bind_some, if_neg m0, if_neg m1', if_neg m2', w1, w3]
     ·refine Ev.congr (fun k => ?_) h'
      rw [if_pos hlen, ← e, ← List.take_succ_eq_append_getElem hli]
theorem sguessof_ev (mode : Int) (a l : List Int) (c : Int) (ha : a.length ≤ 1048576) (hl : l.length ≤ 1048576) : Ev (fun k => spec_GuessOf.f k mode a l c) (guessR mode a l c) := by
 unfold spec_GuessOf.f guessR
 simp only [Option.bind_some, in_eq]
 have hbad : Ev (fun k => spec_GuessOf.j0 k mode [] true a l c) [] := Ev.step (f := fun _ => some []) (fun k => by simp only [spec_GuessOf.j0]; rfl) (Ev.now _)
 refine Ev.bind (sedges_ev a l c (by omega) (by omega)) ?_
 by_cases he : edgesB a l c = true
 ·have h := edgesB_right he
  by_cases hm : 0 ≤ mode ∧ mode ≤ 3
  ·rw [if_pos ⟨he, hm⟩]
   simp only [he, hm, and_self, decide_true, if_true, Bool.not_true]
   have h0 := sguess_loop mode a l c hm h 0 (by omega)
   have h1 : Ev (fun k => spec_GuessOf.j1 k mode [] (cornG c) a l c) (guessV mode a l c) := Ev.step (fun k => by simp only [spec_GuessOf.j1] <;> rfl) h0
   refine Ev.step (fun k => ?_) h1
   simp only [spec_GuessOf.j0, Bool.false_eq_true, if_false]
   unfold cornG
   by_cases c0 : c < 0
   ·rw [if_pos c0, if_pos c0]
   ·rw [if_neg c0, if_neg c0]
  ·rw [if_neg (fun h => hm h.2)]
   simp only [he, hm, decide_false, if_true, Bool.not_false]; exact hbad
 ·rw [if_neg (fun h => he h.1)]
  simp only [he, if_false]; exact hbad
theorem size_eq (x : Int) : impl_size.f x = some (mx x (wrap64 (-x))) := rfl
theorem sized_eq (x : Int) (h0 : -100000000000 ≤ x) (h1 : x ≤ 100000000000) : spec_l08Sized.f x = some (mx x (wrap64 (-x))) := by
 unfold spec_l08Sized.f mx
 rw [wrap_id (x := -x) (by omega) (by omega)]
 by_cases c : x < 0
 ·rw [if_pos c, if_pos (by omega)]
 ·rw [if_neg c]
  by_cases c2 : x < -x
  ·omega
  ·rw [if_neg c2]
/-- What lies between two lists from place i on, added to s. -/
def gsum (a b : List Int) : Nat → Nat → Int → Int
 | 0, _, s => s
 | n + 1, i, s => gsum a b n (i + 1) (wrap64 (s + mx (wrap64 (rd a (i : Int) - rd b (i : Int))) (wrap64 (-(wrap64 (rd a (i : Int) - rd b (i : Int)))))))
theorem gap_loop (a b : List Int) (n : Nat) (ha : a.length = n) (hb : b.length = n) (hn : n ≤ 1000) : ∀ i, i ≤ n → ∀ s, Ev (fun k => impl_gap.l0 k b s a (n : Int) (i : Int)) (gsum a b (n - i) i s) := by
 refine down n ?_ ?_
 ·intro s
  rw [Nat.sub_self]
  refine Ev.step (f := fun _ => some s) (fun k => ?_) (Ev.now _)
  simp only [impl_gap.l0]
  rw [if_neg (by omega)]
 ·intro i hi hh s
  have e1 : n - i = (n - (i + 1)) + 1 := by omega
  rw [e1]
  refine Ev.step (fun k => ?_) (hh _)
  simp only [impl_gap.l0]
  rw [if_pos (by omega), if_pos (by omega), if_pos (by omega), if_pos (by omega), size_eq, Option.bind_some, wrap_id (x := (i : Int) + 1) (by omega) (by omega), cast1]
theorem gap_ev (a b : List Int) (n : Nat) (ha : a.length = n) (hb : b.length = n) (hn : n ≤ 1000) : Ev (fun k => impl_gap.f k a b) (gsum a b n 0 0) := by
 unfold impl_gap.f
 rw [ha]
 exact gap_loop a b n ha hb hn 0 (by omega) 0
def GapOk (a b : List Int) : Prop := (a.length = 64 ∧ allB (-1000) 1000 a = true) ∧ (b.length = 64 ∧ allB (-1000) 1000 b = true)
instance (a b : List Int) : Decidable (GapOk a b) := by unfold GapOk; infer_instance
theorem len_dec (l : List Int) (n : Nat) (m : Int) (h : m = (n : Int)) : decide ((l.length : Int) = m) = decide (l.length = n) := by rw [decide_eq_decide]; omega
theorem gapof_ev (a b : List Int) (ha : a.length ≤ 17592186043904) (hb : b.length ≤ 17592186043904) : Ev (fun k => impl_GapOf.f k a b) (if GapOk a b then gsum a b 64 0 0 else -1) := by
 unfold impl_GapOf.f
 refine Ev.bind (areIn_ev a 64 (-1000) 1000 ha) ?_
 rw [len_dec a 64 64 rfl]
 by_cases c1 : a.length = 64 ∧ allB (-1000) 1000 a = true
 ·rw [decide_eq_true c1.1, c1.2]
  simp only [Bool.and_self, if_true]
  refine Ev.bind (areIn_ev b 64 (-1000) 1000 hb) ?_
  rw [len_dec b 64 64 rfl]
  by_cases c2 : b.length = 64 ∧ allB (-1000) 1000 b = true
  ·rw [if_pos ⟨c1, c2⟩, decide_eq_true c2.1, c2.2]
   simp only [Bool.and_self, if_true]
   exact Ev.bind (gap_ev a b 64 c1.1 c2.1 (by omega)) (Ev.now _)
  ·rw [if_neg (fun h => c2 h.2)]
   have : (decide (b.length = 64) && allB (-1000) 1000 b) = false := by
    rw [Bool.eq_false_iff]; intro h; rw [Bool.and_eq_true, decide_eq_true_eq] at h; exact c2 h
   simp only [this, Bool.false_eq_true, if_false]; exact Ev.now _
 ·rw [if_neg (fun h => c1 h.1)]
  have : (decide (a.length = 64) && allB (-1000) 1000 a) = false := by
   rw [Bool.eq_false_iff]; intro h; rw [Bool.and_eq_true, decide_eq_true_eq] at h; exact c1 h
  simp only [this, Bool.false_eq_true, if_false]; exact Ev.now _
theorem allB_rd {lo hi : Int} {l : List Int} (h : allB lo hi l = true) (i : Nat) (hi' : i < l.length) : lo ≤ rd l (i : Int) ∧ rd l (i : Int) ≤ hi := by
 rw [rd_nat l i hi']; exact allB_iff.1 h _ (List.getElem_mem _)
theorem sgap_loop (a b : List Int) (h : GapOk a b) : ∀ i : Nat, i ≤ 64 → ∀ s, Ev (fun k => spec_GapOf.l0 k a b s (i : Int)) (gsum a b (64 - i) i s) := by
 obtain ⟨⟨ha, ba⟩, hb, bb⟩ := h
 refine down 64 ?_ ?_
 ·intro s
  refine Ev.step (f := fun _ => some s) (fun k => ?_) (Ev.now _)
  simp only [spec_GapOf.l0]
  rw [if_neg (by omega)]
 ·intro i hi hh s
  have e1 : 64 - i = (64 - (i + 1)) + 1 := by omega
  rw [e1]
  have r1 := allB_rd ba i (by omega)
  have r2 := allB_rd bb i (by omega)
  refine Ev.step (fun k => ?_) (hh _)
  simp only [spec_GapOf.l0]
  rw [if_pos (by omega), if_pos (by omega), if_pos (by omega), if_pos (by omega), sized_eq _ (by rw [wrap_id (by omega) (by omega)]; omega) (by rw [wrap_id (by omega) (by omega)]; omega), Option.bind_some, wrap_id (x := (i : Int) + 1) (by omega) (by omega), cast1]
theorem sgapof_ev (a b : List Int) (ha : a.length ≤ 17592186043904) (hb : b.length ≤ 17592186043904) : Ev (fun k => spec_GapOf.f k a b) (if GapOk a b then gsum a b 64 0 0 else -1) := by
 unfold spec_GapOf.f
 have hbad : Ev (fun k => spec_GapOf.j0 k a b true) (-1) := Ev.step (f := fun _ => some (-1)) (fun k => by simp only [spec_GapOf.j0]; rfl) (Ev.now _)
 refine Ev.bind (all_ev a 64 1000 ha (by omega) (by omega)) ?_
 rw [len_dec a 64 64 rfl]
 by_cases c1 : a.length = 64 ∧ allB (-1000) 1000 a = true
 ·rw [decide_eq_true c1.1, c1.2]
  simp only [Bool.and_self, if_true]
  refine Ev.bind (all_ev b 64 1000 hb (by omega) (by omega)) ?_
  rw [len_dec b 64 64 rfl]
  by_cases c2 : b.length = 64 ∧ allB (-1000) 1000 b = true
  ·rw [if_pos ⟨c1, c2⟩, decide_eq_true c2.1, c2.2]
   simp only [Bool.and_self, Bool.not_true]
   exact Ev.step (fun k => by simp only [spec_GapOf.j0, Bool.false_eq_true, if_false]; rfl) (sgap_loop a b ⟨c1, c2⟩ 0 (by omega) 0)
  ·rw [if_neg (fun h => c2 h.2)]
   have : (decide (b.length = 64) && allB (-1000) 1000 b) = false := by
    rw [Bool.eq_false_iff]; intro h; rw [Bool.and_eq_true, decide_eq_true_eq] at h; exact c2 h
   simp only [this, Bool.not_false]; exact hbad
 ·rw [if_neg (fun h => c1 h.1)]
  have : (decide (a.length = 64) && allB (-1000) 1000 a) = false := by
   rw [Bool.eq_false_iff]; intro h; rw [Bool.and_eq_true, decide_eq_true_eq] at h; exact c1 h
  simp only [this, Bool.false_eq_true, if_false]; exact hbad
theorem getElem_rep {n i : Nat} {v : Int} (h : i < (List.replicate n v).length) : (List.replicate n v)[i] = v := List.getElem_replicate h
theorem long_ev (n : Nat) (v : Int) (hn : n ≤ 281474976710656) : Ev (fun k => spec_l01Long.f k (n : Int) v) (strOfNums (List.replicate n v)) := by
 have H : ∀ i, i ≤ n → Ev (fun k => spec_l01Long.l0 k (n : Int) v ((List.replicate n v).take i ++ (List.replicate n (0 : Int)).drop i) (i : Int)) (strOfNums (List.replicate n v)) := by
  refine down n ?_ ?_
  ·refine Ev.step (f := fun _ => some (strOfNums (List.replicate n v))) (fun k => ?_) (Ev.now _)
   have := mix_end (List.replicate n v) (List.replicate n (0 : Int)) (by simp)
   rw [List.length_replicate] at this
   simp only [spec_l01Long.l0]
   rw [if_neg (by omega), this]
  ·intro i hi h
   refine Ev.step (fun k => ?_) h
   have hl : i < (List.replicate n v).length := by simp; exact hi
   have e := mix_set (List.replicate n v) (List.replicate n (0 : Int)) i hl (by simp; exact hi)
   rw [getElem_rep] at e
   simp only [spec_l01Long.l0]
   rw [if_pos (by omega), if_pos (by omega), if_pos (by rw [mix_length _ _ _ (by simp) (by omega)]; omega), Int.toNat_natCast, e, wrap_id (by omega) (by omega), cast1]
 have h0 := H 0 (by omega)
 rw [mix_zero] at h0
 unfold spec_l01Long.f
 refine Ev.congr (fun k => ?_) h0
 rw [if_pos (by omega), if_pos (by rw [Int.toNat_natCast]; exact hn), Int.toNat_natCast]; rfl
/-- How many binary figures a number has (at most w are looked at). -/
def figsF : Nat → Nat → Nat
 | 0, _ => 0
 | w + 1, x => if x = 0 then 0 else figsF w (x / 2) + 1
def figs (x : Nat) : Nat := figsF 64 x
/-- The last w binary figures of x, as the signs 48 and 49. -/
def fixL (x : Nat) : Nat → List Int
 | 0 => []
 | w + 1 => fixL (x / 2) w ++ [48 + ((x % 2 : Nat) : Int)]
def ueL (n : Nat) : List Int := fixL (n + 1) (2 * figs (n + 1) - 1)
theorem fixL_len (w : Nat) : ∀ x, (fixL x w).length = w := by
 induction w with
 | zero => intro x; rfl
 | succ w ih => intro x; simp [fixL, ih]
theorem figsF_lt (w : Nat) : ∀ x, x < 2 ^ w → ∀ v, w ≤ v → figsF v x = figsF w x := by
 induction w with
 | zero =>
  intro x hx v _
  have : x = 0 := by simpa using hx
  subst this
  cases v with
  | zero => rfl
  | succ v => simp [figsF]
 | succ w ih =>
  intro x hx v hv
  obtain ⟨v, rfl⟩ : ∃ m, v = m + 1 := ⟨v - 1, by omega⟩
  simp only [figsF]
  by_cases h0 : x = 0
  ·rw [if_pos h0, if_pos h0]
  ·rw [if_neg h0, if_neg h0, ih (x / 2) (by rw [Nat.pow_succ] at hx; omega) v (by omega)]
theorem figsF_le (w : Nat) : ∀ x, figsF w x ≤ w := by
 induction w with
 | zero => intro x; simp [figsF]
 | succ w ih =>
  intro x
  simp only [figsF]
  split
  ·omega
  ·have := ih (x / 2); omega
theorem figs_le (x : Nat) : figs x ≤ 64 := figsF_le 64 x
theorem figs_half {x : Nat} (h0 : 0 < x) (h : x < 2 ^ 64) : figs x = figs (x / 2) + 1 := by
 unfold figs
 rw [show figsF 64 x = figsF 63 (x / 2) + 1 by rw [show (64 : Nat) = 63 + 1 from rfl]; simp only [figsF]; rw [if_neg (by omega)]]
 rw [figsF_lt 63 (x / 2) (by omega) 64 (by omega)]
theorem figs_zero : figs 0 = 0 := rfl
theorem figs_pos {x : Nat} (h0 : 0 < x) (h : x < 2 ^ 64) : 0 < figs x := by rw [figs_half h0 h]; omega
theorem fixL_zero (w : Nat) : fixL 0 w = List.replicate w 48 := by
 induction w with
 | zero => rfl
 | succ w ih => simp only [fixL]; rw [ih, List.replicate_succ']; rfl
/-- More width: noughts ahead. -/
theorem fixL_more (w : Nat) : ∀ x, x < 2 ^ 64 → figs x ≤ w → fixL x w = List.replicate (w - figs x) 48 ++ fixL x (figs x) := by
 induction w with
 | zero =>
  intro x hx h
  have : figs x = 0 := by omega
  rw [this]; rfl
 | succ w ih =>
  intro x hx h
  by_cases h0 : x = 0
  ·subst h0; rw [fixL_zero, figs_zero]; simp [fixL]
  ·have e := figs_half (show 0 < x by omega) hx
   have i := ih (x / 2) (by omega) (by omega)
   have e2 : fixL x (figs x) = fixL (x / 2) (figs (x / 2)) ++ [48 + ((x % 2 : Nat) : Int)] := by rw [e]; rfl
   rw [e2, ← List.append_assoc]
   simp only [fixL]
   rw [i]
   congr 3
   omega
theorem ueL_eq (n : Nat) (h : n + 1 < 2 ^ 64) : ueL n = List.replicate (figs (n + 1) - 1) 48 ++ fixL (n + 1) (figs (n + 1)) := by
 have hp := figs_pos (x := n + 1) (by omega) h
 unfold ueL
 rw [fixL_more _ _ h (by omega)]
 congr 2
 omega
theorem ueL_len (n : Nat) : (ueL n).length ≤ 127 := by
 unfold ueL; rw [fixL_len]
 have := figs_le (n + 1)
 omega
theorem strOfNums_append (a b : List Int) : strOfNums a ++ strOfNums b = strOfNums (a ++ b) := by
 apply ByteArray.ext
 simp [strOfNums, ByteArray.data_append]
theorem strOfNums_nil : strOfNums [] = (⟨#[]⟩ : ByteArray) := rfl
theorem tdiv2 {x : Nat} : Int.tdiv (x : Int) 2 = ((x / 2 : Nat) : Int) := by rw [Int.tdiv_eq_ediv_of_nonneg (by omega)]; omega
theorem tmod2 {x : Nat} : Int.tmod (x : Int) 2 = ((x % 2 : Nat) : Int) := by rw [Int.tmod_eq_emod_of_nonneg (by omega)]; omega
theorem sue_loop (w : Nat) : ∀ (x : Nat) (sl : List Int), x < 2 ^ w → w ≤ 63 → sl.length + w ≤ 1000 → 0 < figs x + sl.length →
  Ev (fun k => spec_l03Ue.l0 k (x : Int) (strOfNums sl)) (strOfNums (List.replicate (figs x + sl.length - 1) 48 ++ (fixL x (figs x) ++ sl))) := by
 have hend : ∀ sl : List Int, sl.length ≤ 1000 → 0 < sl.length → Ev (fun k => spec_l03Ue.l0 k ((0 : Nat) : Int) (strOfNums sl)) (strOfNums (List.replicate (figs 0 + sl.length - 1) 48 ++ (fixL 0 (figs 0) ++ sl))) := by
  intro sl hs hp
  have hl := long_ev (figs 0 + sl.length - 1) 48 (by rw [figs_zero]; omega)
  rw [show ((figs 0 + sl.length - 1 : Nat) : Int) = (sl.length : Int) - 1 by rw [figs_zero]; omega] at hl
  refine Ev.step (f := fun k => (spec_l01Long.f k ((sl.length : Int) - 1) 48).bind fun t => (if t.size + (strOfNums sl).size ≤ 9223372036854775807 then (some (t ++ strOfNums sl)) else (none))) (fun k => ?_) (Ev.bind hl ?_)
  ·simp only [spec_l03Ue.l0]
   rw [if_neg (by omega), strOfNums_size, wrap_id (by omega) (by omega)]
  ·rw [if_pos (by rw [strOfNums_size, strOfNums_size, List.length_replicate, figs_zero]; omega), strOfNums_append]
   exact Ev.now _
 induction w with
 | zero =>
  intro x sl hx _ hs hp
  have : x = 0 := by simpa using hx
  subst this
  exact hend sl (by omega) (by rw [figs_zero] at hp; omega)
 | succ w ih =>
  intro x sl hx hw hs hp
  have h64 : 2 ^ (w + 1) ≤ 2 ^ 64 := Nat.pow_le_pow_right (by decide) (by omega)
  by_cases h0 : x = 0
  ·subst h0; exact hend sl (by omega) (by rw [figs_zero] at hp; omega)
  ·have e := figs_half (show 0 < x by omega) (by omega)
   have i := ih (x / 2) ([48 + ((x % 2 : Nat) : Int)] ++ sl) (by rw [Nat.pow_succ] at hx; omega) (by omega) (by simp; omega) (by simp; omega)
   have e2 : fixL x (figs x) = fixL (x / 2) (figs (x / 2)) ++ [48 + ((x % 2 : Nat) : Int)] := by rw [e]; rfl
   rw [e2, List.append_assoc]
   rw [show figs x + sl.length - 1 = figs (x / 2) + ([48 + ((x % 2 : Nat) : Int)] ++ sl).length - 1 by simp; omega]
   refine Ev.step (fun k => ?_) i
   have h63 : (x : Int) < 9223372036854775808 := by
    have : 2 ^ (w + 1) ≤ 2 ^ 63 := Nat.pow_le_pow_right (by decide) (by omega)
    omega
   simp only [spec_l03Ue.l0, Option.bind_some]
   rw [if_pos (by omega), tmod2, tdiv2, wrap_id (x := 48 + ((x % 2 : Nat) : Int)) (by omega) (by omega), show (48 + ((x % 2 : Nat) : Int)) % 256 = 48 + ((x % 2 : Nat) : Int) by omega, if_pos (by rw [strOfNums_size, strOfNums_size]; simp; omega), strOfNums_append, wrap_id (by omega) (by omega)]
theorem sue_ev (n : Nat) (hn : n < 1000000000000) : Ev (fun k => spec_l03Ue.f k (n : Int)) (strOfNums (ueL n)) := by
 have hp := figs_pos (x := n + 1) (by omega) (by omega)
 have h := sue_loop 63 (n + 1) [] (by omega) (by omega) (by simp) (by simp; omega)
 unfold spec_l03Ue.f
 rw [ueL_eq n (by omega)]
 rw [List.append_nil, List.length_nil, Nat.add_zero, strOfNums_nil] at h
 refine Ev.congr (fun k => ?_) h
 rw [wrap_id (by omega) (by omega)]; rfl
theorem figs_loop (w : Nat) : ∀ (x c : Nat), x < 2 ^ w → w ≤ 63 → c + w ≤ 1000 → Ev (fun k => impl_figuresOf.l0 k (x : Int) (c : Int)) ((c + figs x : Nat) : Int) := by
 have hend : ∀ c : Nat, Ev (fun k => impl_figuresOf.l0 k ((0 : Nat) : Int) (c : Int)) ((c + figs 0 : Nat) : Int) := fun c =>
  Ev.step (f := fun _ => some ((c + figs 0 : Nat) : Int)) (fun k => by simp only [impl_figuresOf.l0]; rw [if_neg (by omega)]; rfl) (Ev.now _)
 induction w with
 | zero =>
  intro x c hx _ _
  have : x = 0 := by simpa using hx
  subst this; exact hend c
 | succ w ih =>
  intro x c hx hw hc
  have h64 : 2 ^ (w + 1) ≤ 2 ^ 64 := Nat.pow_le_pow_right (by decide) (by omega)
  by_cases h0 : x = 0
  ·subst h0; exact hend c
  ·have e := figs_half (show 0 < x by omega) (by omega)
   have i := ih (x / 2) (c + 1) (by rw [Nat.pow_succ] at hx; omega) (by omega) (by omega)
   rw [show c + figs x = c + 1 + figs (x / 2) by omega]
   refine Ev.step (fun k => ?_) i
   simp only [impl_figuresOf.l0]
   rw [if_pos (by omega), wrap_id (by omega) (by omega), cast1, show ((x : Int) / 2) = ((x / 2 : Nat) : Int) by omega]
theorem figs_ev (x : Nat) (hx : x < 2 ^ 63) : Ev (fun k => impl_figuresOf.f k (x : Int)) (figs x : Int) := by
 have h := figs_loop 63 x 0 hx (by omega) (by omega)
 rw [Nat.zero_add] at h
 exact h
theorem i64_and1 (x : Nat) (hx : x < 2 ^ 63) : Go.bits .and .i64 (x : Int) 1 = ((x % 2 : Nat) : Int) := by
 have h := bits_mask .i64 63 (by decide) (fun n h0 h1 => by rw [IntKind.wrap_i64]; omega) 1 (by decide) (x : Int) (by omega) (by omega)
 rw [show ((2 : Int) ^ 1 - 1) = 1 from rfl, show ((2 : Int) ^ 1) = 2 from rfl] at h
 rw [h]; omega
theorem rep_set (v : Nat) (d : Int) (tail : List Int) : (List.replicate (v + 1) (0 : Int) ++ tail).set v d = List.replicate v 0 ++ ([d] ++ tail) := by
 rw [List.replicate_succ', List.append_assoc, List.set_append_right _ _ (by simp), show v - (List.replicate v (0 : Int)).length = 0 by simp]
 rfl
theorem signs_loop (v : Nat) : ∀ (x : Nat) (tail : List Int), x < 2 ^ 63 → v ≤ 1000 → Ev (fun k => impl_signs.l0 k (x : Int) (List.replicate v 0 ++ tail) ((v : Int) - 1)) (strOfNums (fixL x v ++ tail)) := by
 induction v with
 | zero =>
  intro x tail _ _
  refine Ev.step (f := fun _ => some (strOfNums tail)) (fun k => ?_) (Ev.now _)
  simp only [impl_signs.l0]
  rw [if_neg (by omega)]; rfl
 | succ v ih =>
  intro x tail hx hv
  have i := ih (x / 2) ([48 + ((x % 2 : Nat) : Int)] ++ tail) (by omega) (by omega)
  rw [show fixL x (v + 1) ++ tail = fixL (x / 2) v ++ ([48 + ((x % 2 : Nat) : Int)] ++ tail) by simp only [fixL]; rw [List.append_assoc]]
  refine Ev.step (fun k => ?_) i
  simp only [impl_signs.l0]
  rw [if_pos (by omega), if_pos (by omega), if_pos (by simp; omega), i64_and1 x hx, wrap_id (x := 48 + ((x % 2 : Nat) : Int)) (by omega) (by omega), show (48 + ((x % 2 : Nat) : Int)) % 256 = 48 + ((x % 2 : Nat) : Int) by omega, show (((v + 1 : Nat) : Int) - 1) = (v : Int) by omega, Int.toNat_natCast, rep_set, show ((x : Int) / 2) = ((x / 2 : Nat) : Int) by omega, wrap_id (by omega) (by omega)]
theorem signs_ev (x w : Nat) (hx : x < 2 ^ 63) (hw : w ≤ 1000) : Ev (fun k => impl_signs.f k (x : Int) (w : Int)) (strOfNums (fixL x w)) := by
 have h := signs_loop w x [] hx hw
 rw [List.append_nil, List.append_nil] at h
 unfold impl_signs.f
 refine Ev.congr (fun k => ?_) h
 rw [if_pos (by omega), if_pos (by rw [Int.toNat_natCast]; omega), Int.toNat_natCast, wrap_id (by omega) (by omega)]
theorem ue_ev (n : Nat) (hn : n < 1000000000000) : Ev (fun k => impl_ue.f k (n : Int)) (strOfNums (ueL n)) := by
 have hp := figs_pos (x := n + 1) (by omega) (by omega)
 have hle := figs_le (n + 1)
 have h1 := figs_ev (n + 1) (by omega)
 have h2 := signs_ev (n + 1) (2 * figs (n + 1) - 1) (by omega) (by omega)
 unfold impl_ue.f
 refine Ev.congr (f := fun k => (impl_figuresOf.f k ((n + 1 : Nat) : Int)).bind fun t => ((impl_signs.f k ((n + 1 : Nat) : Int) (wrap64 ((wrap64 (2 * t)) - 1))).bind fun t138 => (some t138))) (fun k => by rw [wrap_id (x := (n : Int) + 1) (by omega) (by omega)]; rfl) (Ev.bind h1 ?_)
 rw [wrap_id (x := 2 * (figs (n + 1) : Int)) (by omega) (by omega), wrap_id (by omega) (by omega), show (2 * (figs (n + 1) : Int) - 1) = ((2 * figs (n + 1) - 1 : Nat) : Int) by omega]
 exact Ev.bind h2 (Ev.now _)
def costV (w a l : List Int) (c : Int) (m : Nat) : Int := wrap64 (gsum w (guessV (m : Int) a l c) 64 0 0 + ((ueL m).length : Int))
def bestL (f : Nat → Int) : Nat → Nat → Int → Int → Int × Int
 | 0, _, b, s => (b, s)
 | n + 1, m, b, s => if s < 0 then bestL f n (m + 1) (m : Int) (f m) else if f m < s then bestL f n (m + 1) (m : Int) (f m) else bestL f n (m + 1) b s
def dotsB (w : List Int) : Bool := decide (w.length = 64) && allB 0 255 w
theorem dotsB_iff {w : List Int} : dotsB w = true ↔ w.length = 64 ∧ ∀ x ∈ w, 0 ≤ x ∧ x ≤ 255 := by
 unfold dotsB
 rw [Bool.and_eq_true, decide_eq_true_eq, allB_iff]
def bestV (w a l : List Int) (c : Int) : Int × Int := if edgesB a l c = true ∧ dotsB w = true then bestL (costV w a l c) 4 0 0 (-1) else (0, -1)
theorem allB_wide {l : List Int} (h : ∀ x ∈ l, 0 ≤ x ∧ x ≤ 255) : allB (-1000) 1000 l = true := allB_iff.2 (fun x hx => by have := h x hx; omega)
theorem gap_okd {w a l : List Int} {c mode : Int} (hw : w.length = 64) (bw : ∀ x ∈ w, 0 ≤ x ∧ x ≤ 255) (h : EdR a l c) : GapOk w (guessV mode a l c) :=
 ⟨⟨hw, allB_wide bw⟩, guessV_len _ _ _ _, allB_wide (guessV_in h)⟩
theorem uesize_ev (m : Nat) (hm : m < 4) : Ev (fun k => impl_UeSize.f k (m : Int)) ((ueL m).length : Int) := by
 unfold impl_UeSize.f impl_UeRow.f
 have e := ue_ev m (by omega)
 refine Ev.bind (a := (strOfNums (ueL m), true)) ?_ ?_
 ·simp only [within_eq, Option.bind_some]
  have hd : decide (0 ≤ (m : Int) ∧ (m : Int) ≤ 1000000) = true := decide_eq_true (by omega)
  simp only [hd, if_true]
  exact Ev.bind e (Ev.now _)
 ·simp only [strOfNums_size]
  exact Ev.now _
theorem suesize_ev (m : Nat) (hm : m < 4) : Ev (fun k => spec_UeSize.f k (m : Int)) ((ueL m).length : Int) := by
 unfold spec_UeSize.f spec_UeRow.f
 have e := sue_ev m (by omega)
 refine Ev.bind (a := (strOfNums (ueL m), true)) ?_ ?_
 ·simp only [in_eq, Option.bind_some]
  have hd : decide (0 ≤ (m : Int) ∧ (m : Int) ≤ 1000000) = true := decide_eq_true (by omega)
  simp only [hd, if_true]
  exact Ev.bind e (Ev.now _)
 ·simp only [strOfNums_size]
  exact Ev.now _
theorem best_loop (w a l : List Int) (c : Int) (hw : w.length = 64) (bw : ∀ x ∈ w, 0 ≤ x ∧ x ≤ 255) (h : EdR a l c) :
  ∀ m : Nat, m ≤ 4 → ∀ b s : Int, Ev (fun k => impl_BestGuess.l0 k w b s (m : Int) a l c) (bestL (costV w a l c) (4 - m) m b s) := by
 have la : a.length ≤ 8 := by rcases h.la with e | e <;> omega
 have ll : l.length ≤ 8 := by rcases h.ll with e | e <;> omega
 refine down 4 ?_ ?_
 ·intro b s
  refine Ev.step (f := fun _ => some (b, s)) (fun k => ?_) (Ev.now _)
  simp only [impl_BestGuess.l0]
  rw [if_neg (by omega)]
 ·intro m hm h' b s
  have hg := guessof_ev (m : Int) a l c (by omega) (by omega)
  have e1 : 4 - m = (4 - (m + 1)) + 1 := by omega
  have p1 : (m : Int) ≤ 3 := by omega
  have w1 : wrap64 ((m : Int) + 1) = ((m + 1 : Nat) : Int) := wrap_id (by omega) (by omega)
  have hr : guessR (m : Int) a l c = guessV (m : Int) a l c := by unfold guessR; rw [if_pos ⟨right_edgesB h, by clear w1; omega⟩]
  rw [hr] at hg
  have hgap := gap_ev w (guessV (m : Int) a l c) 64 hw (guessV_len _ _ _ _) (by decide)
  have hue := uesize_ev m hm
  have hc : costV w a l c m = wrap64 (gsum w (guessV (m : Int) a l c) 64 0 0 + ((ueL m).length : Int)) := rfl
  rw [e1, bestL, hc]
  refine Ev.step (fun k => by simp only [impl_BestGuess.l0]; rw [if_pos p1]) (Ev.bind hg (Ev.bind hgap (Ev.bind hue ?_)))
  rw [← hc]
  by_cases s0 : s < 0
  ·rw [if_pos s0]
   exact Ev.congr (fun k => by rw [if_pos s0, w1]) (h' (m : Int) (costV w a l c m))
  ·rw [if_neg s0]
   by_cases s1 : costV w a l c m < s
   ·rw [if_pos s1]
    exact Ev.congr (fun k => by rw [if_neg s0, if_pos s1, w1]) (h' (m : Int) (costV w a l c m))
   ·rw [if_neg s1]
    exact Ev.congr (fun k => by rw [if_neg s0, if_neg s1, w1]) (h' b s)
theorem best_ev (w a l : List Int) (c : Int) (hw : w.length ≤ 1048576) (ha : a.length ≤ 1048576) (hl : l.length ≤ 1048576) : Ev (fun k => impl_BestGuess.f k w a l c) (bestV w a l c) := by
 unfold impl_BestGuess.f bestV
 have hbad : Ev (fun k => impl_BestGuess.j0 k w true a l c) (0, -1) := Ev.step (f := fun _ => some (0, -1)) (fun k => by simp only [impl_BestGuess.j0]; rfl) (Ev.now _)
 refine Ev.bind (edges_ev a l c (by omega) (by omega)) ?_
 by_cases he : edgesB a l c = true
 ·simp only [he, if_true, true_and]
  refine Ev.bind (areIn_ev w 64 0 255 (by omega)) ?_
  rw [len_dec w 64 64 rfl]
  by_cases hd : dotsB w = true
  ·have hd' := hd
   unfold dotsB at hd'
   rw [hd', if_pos hd]
   have hq := dotsB_iff.1 hd
   refine Ev.step (fun k => ?_) (best_loop w a l c hq.1 hq.2 (edgesB_right he) 0 (by omega) 0 (-1))
   simp only [impl_BestGuess.j0, Bool.not_true, Bool.false_eq_true, if_false]; rfl
  ·have hd' : (decide (w.length = 64) && allB 0 255 w) = false := by rw [Bool.eq_false_iff]; exact hd
   rw [hd', if_neg hd]
   exact hbad
 ·simp only [he, if_false, false_and]
  exact hbad
theorem dots13_loop (l : List Int) (hl : l.length = 64) : ∀ i : Nat, i ≤ 64 → Ev (fun k => spec_l13Dots.l0 k l (i : Int)) (allB 0 255 (l.drop i)) := by
 refine down 64 ?_ ?_
 ·refine Ev.step (f := fun _ => some true) (fun k => ?_) (by rw [List.drop_of_length_le (by omega)]; exact Ev.now _)
  simp only [spec_l13Dots.l0]
  rw [if_neg (by omega)]
 ·intro i h1 h
  have h1' : i < l.length := by omega
  rw [drop_cons h1', allB_cons]
  by_cases c : 0 ≤ l[i] ∧ l[i] ≤ 255
  ·rw [decide_eq_true c, Bool.true_and]
   refine Ev.step (fun k => ?_) h
   simp only [spec_l13Dots.l0]
   rw [if_pos (by omega), if_pos (by omega), if_pos (by omega), rd_nat l i h1', in_eq, Option.bind_some, if_pos (decide_eq_true c), wrap_id (by omega) (by omega), cast1]
  ·rw [decide_eq_false c, Bool.false_and]
   refine Ev.step (f := fun _ => some false) (fun k => ?_) (Ev.now _)
   simp only [spec_l13Dots.l0]
   rw [if_pos (by omega), if_pos (by omega), if_pos (by omega), rd_nat l i h1', in_eq, Option.bind_some, if_neg (by simpa using c)]
theorem dots13_ev (l : List Int) : Ev (fun k => spec_l13Dots.f k l) (dotsB l) := by
 unfold spec_l13Dots.f dotsB
 by_cases c : l.length = 64
 ·rw [decide_eq_true c, Bool.true_and]
  exact Ev.congr (fun k => by rw [if_pos (by omega)] <;> rfl) (dots13_loop l c 0 (by omega))
 ·rw [decide_eq_false c, Bool.false_and]
  exact Ev.congr (f := fun _ => some false) (fun k => by rw [if_neg (by omega)]) (Ev.now _)
theorem sbest_loop (w a l : List Int) (c : Int) (hw : w.length = 64) (bw : ∀ x ∈ w, 0 ≤ x ∧ x ≤ 255) (h : EdR a l c) :
  ∀ m : Nat, m ≤ 4 → ∀ b s : Int, Ev (fun k => spec_BestGuess.l0 k w b s (m : Int) a l c) (bestL (costV w a l c) (4 - m) m b s) := by
 have la : a.length ≤ 8 := by rcases h.la with e | e <;> omega
 have ll : l.length ≤ 8 := by rcases h.ll with e | e <;> omega
 refine down 4 ?_ ?_
 ·intro b s
  refine Ev.step (f := fun _ => some (b, s)) (fun k => ?_) (Ev.now _)
  simp only [spec_BestGuess.l0]
  rw [if_neg (by omega)]
 ·intro m hm h' b s
  have hg := sguessof_ev (m : Int) a l c (by omega) (by omega)
  have e1 : 4 - m = (4 - (m + 1)) + 1 := by omega
  have p1 : (m : Int) < 4 := by omega
  have w1 : wrap64 ((m : Int) + 1) = ((m + 1 : Nat) : Int) := wrap_id (by omega) (by omega)
  have hr : guessR (m : Int) a l c = guessV (m : Int) a l c := by unfold guessR; rw [if_pos ⟨right_edgesB h, by clear w1; omega⟩]
  rw [hr] at hg
  have hgap := sgapof_ev w (guessV (m : Int) a l c) (by clear w1; omega) (by clear w1; rw [guessV_len]; omega)
  rw [if_pos (gap_okd hw bw h)] at hgap
  have hue := suesize_ev m hm
  have hc : costV w a l c m = wrap64 (gsum w (guessV (m : Int) a l c) 64 0 0 + ((ueL m).length : Int)) := rfl
  rw [e1, bestL, hc]
  refine Ev.step (fun k => by simp only [spec_BestGuess.l0]; rw [if_pos p1]) (Ev.bind hg (Ev.bind hgap (Ev.bind hue ?_)))
  rw [← hc]
  by_cases s0 : s < 0
  ·rw [if_pos s0]
   exact Ev.congr (fun k => by rw [if_pos s0, w1]) (h' (m : Int) (costV w a l c m))
  ·rw [if_neg s0]
   by_cases s1 : costV w a l c m < s
   ·rw [if_pos s1]
    exact Ev.congr (fun k => by rw [if_neg s0, if_pos s1, w1]) (h' (m : Int) (costV w a l c m))
   ·rw [if_neg s1]
    exact Ev.congr (fun k => by rw [if_neg s0, if_neg s1, w1]) (h' b s)
theorem sbest_ev (w a l : List Int) (c : Int) (hw : w.length ≤ 1048576) (ha : a.length ≤ 1048576) (hl : l.length ≤ 1048576) : Ev (fun k => spec_BestGuess.f k w a l c) (bestV w a l c) := by
 unfold spec_BestGuess.f bestV
 have hbad : Ev (fun k => spec_BestGuess.j0 k w true a l c) (0, -1) := Ev.step (f := fun _ => some (0, -1)) (fun k => by simp only [spec_BestGuess.j0]; rfl) (Ev.now _)
 refine Ev.bind (sedges_ev a l c (by omega) (by omega)) ?_
 by_cases he : edgesB a l c = true
 ·simp only [he, if_true, true_and]
  refine Ev.bind (dots13_ev w) ?_
  by_cases hd : dotsB w = true
  ·rw [hd, if_pos rfl]
   have hq := dotsB_iff.1 hd
   refine Ev.step (fun k => ?_) (sbest_loop w a l c hq.1 hq.2 (edgesB_right he) 0 (by omega) 0 (-1))
   simp only [spec_BestGuess.j0, Bool.not_true, Bool.false_eq_true, if_false]; rfl
  ·have hd' : dotsB w = false := by rw [Bool.eq_false_iff]; exact hd
   rw [hd', if_neg (by simp)]
   exact hbad
 ·simp only [he, if_false, false_and]
  exact hbad
theorem and_le (x : Int) (m : Nat) (hm : m < 9223372036854775808) : 0 ≤ Go.bits .and .i64 x (m : Int) ∧ Go.bits .and .i64 x (m : Int) ≤ (m : Int) := by
 have h : (BitVec.ofInt 64 x &&& BitVec.ofInt 64 (m : Int)).toNat ≤ m := by
  rw [BitVec.toNat_and]
  refine Nat.le_trans Nat.and_le_right ?_
  rw [BitVec.ofInt_natCast, BitVec.toNat_ofNat]
  exact Nat.mod_le _ _
 have e : Go.bits .and .i64 x (m : Int) = IntKind.i64.wrap (((BitVec.ofInt 64 x &&& BitVec.ofInt 64 (m : Int)).toNat : Nat) : Int) := rfl
 rw [e, IntKind.wrap_i64]
 omega
theorem byte_at (b : List Int) (hb : b.length ≤ 140737488351232) (i h : Int) (h0 : 0 ≤ i) (h1 : i ≤ (b.length : Int)) :
  ∃ x i' h', spec_l01Byte.f b i h = some (x, i', h') ∧ 0 ≤ x ∧ x ≤ 255 ∧ 0 ≤ i' ∧ i' ≤ (b.length : Int) := by
 unfold spec_l01Byte.f
 by_cases c : i < (b.length : Int)
 ·rw [if_pos c, if_pos h0]
  exact ⟨_, _, _, rfl, (and_le _ 255 (by decide)).1, (and_le _ 255 (by decide)).2, by rw [wrap_id (by omega) (by omega)]; omega, by rw [wrap_id (by omega) (by omega)]; omega⟩
 ·rw [if_neg c]
  exact ⟨_, _, _, rfl, (and_le _ 255 (by decide)).1, (and_le _ 255 (by decide)).2, h0, h1⟩
theorem below_at (b : List Int) (hb : b.length ≤ 140737488351232) (i h n : Int) (h0 : 0 ≤ i) (h1 : i ≤ (b.length : Int)) (hn : 0 < n) :
  ∃ x i' h', spec_l01Below.f b i h n = some (x, i', h') ∧ 0 ≤ x ∧ x < n ∧ 0 ≤ i' ∧ i' ≤ (b.length : Int) := by
 unfold spec_l01Below.f
 rw [if_neg (by omega)]
 obtain ⟨x, i1, s1, e1, x0, x1, p1, q1⟩ := byte_at b hb i h h0 h1
 by_cases c : n ≤ 256
 ·rw [if_pos c, e1, Option.bind_some, if_neg (by omega)]
  exact ⟨_, _, _, rfl, by simp only [Int.tmod_eq_emod_of_nonneg x0]; exact Int.emod_nonneg _ (by omega), by simp only [Int.tmod_eq_emod_of_nonneg x0]; exact Int.emod_lt_of_pos _ hn, p1, q1⟩
 ·obtain ⟨y, i2, s2, e2, y0, y1, p2, q2⟩ := byte_at b hb i1 s1 p1 q1
  obtain ⟨z, i3, s3, e3, z0, z1, p3, q3⟩ := byte_at b hb i2 s2 p2 q2
  obtain ⟨w, i4, s4, e4, w0, w1, p4, q4⟩ := byte_at b hb i3 s3 p3 q3
  rw [if_neg c, e1, Option.bind_some]
  simp only []
  rw [e2, Option.bind_some]
  simp only []
  rw [e3, Option.bind_some]
  simp only []
  rw [e4, Option.bind_some, if_neg (by omega)]
  have hs : wrap64 (wrap64 (wrap64 (wrap64 (x * 16777216) + wrap64 (y * 65536)) + wrap64 (z * 256)) + w) = x * 16777216 + y * 65536 + z * 256 + w := by
   rw [wrap_id (x := x * 16777216) (by omega) (by omega), wrap_id (x := y * 65536) (by omega) (by omega), wrap_id (x := z * 256) (by omega) (by omega), wrap_id (x := x * 16777216 + y * 65536) (by omega) (by omega), wrap_id (x := x * 16777216 + y * 65536 + z * 256) (by omega) (by omega), wrap_id (by omega) (by omega)]
  refine ⟨_, _, _, rfl, ?_, ?_, p4, q4⟩
  ·simp only [hs]; rw [Int.tmod_eq_emod_of_nonneg (by omega)]; exact Int.emod_nonneg _ (by omega)
  ·simp only [hs]; rw [Int.tmod_eq_emod_of_nonneg (by omega)]; exact Int.emod_lt_of_pos _ hn
theorem new_loop (l : List Int) (hl : l.length ≤ 140737488351232) (d : Nat) : ∀ h i : Int, 0 ≤ i → (l.length : Int) - i = d → ∃ h', Ev (fun k => spec_l01New.l0 k l h i) (l, 0, h') := by
 induction d with
 | zero =>
  intro h i h0 hd
  exact ⟨h, Ev.step (f := fun _ => some (l, 0, h)) (fun k => by simp only [spec_l01New.l0]; rw [if_neg (by omega)]) (Ev.now _)⟩
 | succ d ih =>
  intro h i h0 hd
  by_cases c : i < 4000
  ·obtain ⟨h', e⟩ := ih (Go.bits .and .i64 (wrap64 ((wrap64 ((wrap64 (h * 131)) + (wrap64 (rd l i)))) + 7)) 1073741823) (i + 1) (by omega) (by omega)
   refine ⟨h', Ev.step (fun k => ?_) e⟩
   simp only [spec_l01New.l0]
   rw [if_pos (by omega), if_pos c, if_pos h0, wrap_id (x := i + 1) (by omega) (by omega)]
  ·exact ⟨h, Ev.step (f := fun _ => some (l, 0, h)) (fun k => by simp only [spec_l01New.l0]; rw [if_pos (by omega), if_neg c]) (Ev.now _)⟩
theorem new_ev (l : List Int) (hl : l.length ≤ 140737488351232) : ∃ h, Ev (fun k => spec_l01New.f k l) (l, 0, h) := by
 obtain ⟨h, e⟩ := new_loop l hl l.length (wrap64 (94701 + (l.length : Int))) 0 (by omega) (by omega)
 exact ⟨h, e⟩
theorem rd_mem {l : List Int} {P : Int → Prop} (h : ∀ x ∈ l, P x) (i : Int) (h0 : 0 ≤ i) (h1 : i < (l.length : Int)) : P (rd l i) := by
 unfold rd
 rw [List.getD_eq_getElem?_getD, List.getElem?_eq_getElem (by omega)]
 exact h _ (List.getElem_mem _)
theorem snoc_all {P : Int → Prop} {l : List Int} {x : Int} (h : ∀ y ∈ l, P y) (hx : P x) : ∀ y ∈ l ++ [x], P y := by
 intro y hy
 rcases List.mem_append.1 hy with hy | hy
 ·exact h y hy
 ·simp at hy; subst hy; exact hx
theorem mod256 (x : Int) : 0 ≤ x % 256 ∧ x % 256 ≤ 255 := by omega
theorem dots_loop (b : List Int) (hb : b.length ≤ 140737488351232) (n : Nat) (hn : n ≤ 1000000) (d : Nat) : ∀ (out : List Int) (x i p h : Int), 0 ≤ i → (n : Int) - i = (d : Int) → (out.length : Int) = i → (∀ y ∈ out, 0 ≤ y ∧ y ≤ 255) → 0 ≤ p → p ≤ (b.length : Int) →
  ∃ r p' h', Ev (fun k => spec_l12Dots.l0 k (n : Int) out x i b p h) (strOfNums r, p', h') ∧ r.length = n ∧ (∀ y ∈ r, 0 ≤ y ∧ y ≤ 255) ∧ 0 ≤ p' ∧ p' ≤ (b.length : Int) := by
 induction d with
 | zero =>
  intro out x i p h hi hd ho hx h0 h1
  exact ⟨out, p, h, Ev.step (f := fun _ => some (strOfNums out, p, h)) (fun k => by simp only [spec_l12Dots.l0]; rw [if_neg (by omega)]) (Ev.now _), by omega, hx, h0, h1⟩
 | succ d ih =>
  intro out x i p h hi hd ho hx h0 h1
  obtain ⟨y, p1, h1', e1, y0, y1, q0, q1⟩ := below_at b hb p h 6 h0 h1 (by omega)
  by_cases c0 : y = 0
  ·obtain ⟨z, p2, h2', e2, z0, z1, s0, s1⟩ := byte_at b hb p1 h1' q0 q1
   obtain ⟨r, p', h', er, hr⟩ := ih (out ++ [z % 256]) z (i + 1) p2 h2' (by omega) (by omega) (by simp; omega) (snoc_all hx (mod256 _)) s0 s1
   refine ⟨r, p', h', Ev.step (fun k => ?_) er, hr⟩
   simp only [spec_l12Dots.l0]
   rw [if_pos (by omega), e1, Option.bind_some, if_pos c0, e2, Option.bind_some, if_pos (by omega), wrap_id (x := i + 1) (by omega) (by omega)]
  ·by_cases c1 : y = 1
   ·obtain ⟨z, p2, h2', e2, z0, z1, s0, s1⟩ := below_at b hb p1 h1' 9 q0 q1 (by omega)
    obtain ⟨r, p', h', er, hr⟩ := ih (out ++ [(Go.bits .and .i64 (wrap64 ((wrap64 (x + z)) + 252)) 255) % 256]) (Go.bits .and .i64 (wrap64 ((wrap64 (x + z)) + 252)) 255) (i + 1) p2 h2' (by omega) (by omega) (by simp; omega) (snoc_all hx (mod256 _)) s0 s1
    refine ⟨r, p', h', Ev.step (fun k => ?_) er, hr⟩
    simp only [spec_l12Dots.l0]
    rw [if_pos (by omega), e1, Option.bind_some, if_neg c0, if_pos c1, e2, Option.bind_some, if_pos (by omega), wrap_id (x := i + 1) (by omega) (by omega)]
   ·obtain ⟨r, p', h', er, hr⟩ := ih (out ++ [x % 256]) x (i + 1) p1 h1' (by omega) (by omega) (by simp; omega) (snoc_all hx (mod256 _)) q0 q1
    refine ⟨r, p', h', Ev.step (fun k => ?_) er, hr⟩
    simp only [spec_l12Dots.l0]
    rw [if_pos (by omega), e1, Option.bind_some, if_neg c0, if_neg c1, if_pos (by omega), wrap_id (x := i + 1) (by omega) (by omega)]
theorem dots_ev (b : List Int) (hb : b.length ≤ 140737488351232) (p h : Int) (n : Nat) (hn : n ≤ 1000000) (h0 : 0 ≤ p) (h1 : p ≤ (b.length : Int)) :
  ∃ r p' h', Ev (fun k => spec_l12Dots.f k b p h (n : Int)) (strOfNums r, p', h') ∧ r.length = n ∧ (∀ y ∈ r, 0 ≤ y ∧ y ≤ 255) ∧ 0 ≤ p' ∧ p' ≤ (b.length : Int) := by
 obtain ⟨x, p1, h1', e1, x0, x1, q0, q1⟩ := byte_at b hb p h h0 h1
 obtain ⟨r, p', h', er, hr⟩ := dots_loop b hb n hn n [] x 0 p1 h1' (by omega) (by omega) rfl (by simp) q0 q1
 refine ⟨r, p', h', ?_, hr⟩
 unfold spec_l12Dots.f
 simp only [e1, Option.bind_some]
 exact er
theorem bytes_get (s : ByteArray) (i : Nat) (h : i < (bytesOf s).length) : (bytesOf s)[i] = bt s (i : Int) := by
 rw [← rd_bytesOf, rd_nat _ i h]
theorem ints_ev (s : ByteArray) (hs : s.size ≤ 1000000) : Ev (fun k => spec_l13Ints.f k s) (bytesOf s) := by
 have hl := bytesOf_length s
 have H : ∀ i, i ≤ s.size → Ev (fun k => spec_l13Ints.l0 k s ((bytesOf s).take i) (i : Int)) (bytesOf s) := by
  refine down s.size ?_ ?_
  ·refine Ev.step (f := fun _ => some (bytesOf s)) (fun k => ?_) (Ev.now _)
   simp only [spec_l13Ints.l0]
   rw [if_neg (by omega), List.take_of_length_le (by omega)]
  ·intro i hi h
   refine Ev.step (fun k => ?_) h
   have hr := bt_range s i
   simp only [spec_l13Ints.l0]
   rw [if_pos (by omega), if_pos (by omega), if_pos (by simp; omega), wrap_id (x := bt s (i : Int)) (by omega) (by omega), ← bytes_get s i (by omega), ← List.take_succ_eq_append_getElem (by omega), wrap_id (by omega) (by omega), cast1]
 exact H 0 (by omega)
theorem bytes_in (s : ByteArray) : ∀ x ∈ bytesOf s, 0 ≤ x ∧ x ≤ 255 := by
 intro x hx
 obtain ⟨i, hi, rfl⟩ := List.mem_iff_getElem.1 hx
 rw [bytes_get]
 exact bt_range _ _
theorem want_ev (l : List Int) (hl : l.length ≤ 140737488351232) : ∃ w, Ev (fun k => spec_DrawWant.f k l) w ∧ w.length = 64 ∧ ∀ x ∈ w, 0 ≤ x ∧ x ≤ 255 := by
 obtain ⟨h, e⟩ := new_ev l hl
 obtain ⟨r, p', h', er, hr, _⟩ := dots_ev l hl 0 h 64 (by omega) (by omega) (by omega)
 refine ⟨bytesOf (strOfNums r), ?_, by rw [bytesOf_length, strOfNums_size, hr], bytes_in _⟩
 unfold spec_DrawWant.f
 refine Ev.bind e (Ev.bind er (Ev.bind (ints_ev _ (by rw [strOfNums_size]; omega)) (Ev.now _)))
theorem edges_j0 (b : List Int) (hb : b.length ≤ 140737488351232) (p h : Int) (h0 : 0 ≤ p) (h1 : p ≤ (b.length : Int)) (a s : List Int) (c : Int) (ha : a.length ≤ 8) (hs : s.length = 0 ∨ s.length = 8) :
  ∃ a' s' c' p' h', Ev (fun k => spec_l13Edges.j0 k b p h a s c) (a', s', c', p', h') ∧ a'.length ≤ 9 ∧ s'.length ≤ 8 := by
 obtain ⟨x, p1, h1', e, _, _, q0, q1⟩ := below_at b hb p h 20 h0 h1 (by omega)
 have pk : ∀ u v w : Int, ∃ y p2 h2, spec_l01PickInt.f b p1 h1' [u, v, w] = some (y, p2, h2) := by
  intro u v w
  obtain ⟨i, p2, h2, e2, i0, i1, _, _⟩ := below_at b hb p1 h1' 3 q0 q1 (by omega)
  refine ⟨rd [u, v, w] i, p2, h2, ?_⟩
  unfold spec_l01PickInt.f
  show ((spec_l01Below.f b p1 h1' 3).bind _) = _
  rw [e2, Option.bind_some, if_pos i0, if_pos (by simpa using i1)]
 by_cases c0 : x = 0
 ·refine ⟨a ++ [9], s, c, p1, h1', Ev.step (f := fun _ => some (a ++ [9], s, c, p1, h1')) (fun k => ?_) (Ev.now _), by simp; omega, by omega⟩
  simp only [spec_l13Edges.j0]
  rw [e, Option.bind_some, if_pos c0, if_pos (by omega)]
 ·by_cases c1 : x = 1
  ·by_cases c3 : (s.length : Int) > 0
   ·obtain ⟨y, p2, h2, e2⟩ := pk (-1) 256 255
    refine ⟨a, s.set (3 : Int).toNat y, c, p2, h2, Ev.step (f := fun _ => some (a, s.set (3 : Int).toNat y, c, p2, h2)) (fun k => ?_) (Ev.now _), by omega, by simp; omega⟩
    simp only [spec_l13Edges.j0]
    rw [e, Option.bind_some, if_neg c0, if_pos c1, if_pos c3, e2, Option.bind_some, if_pos (by omega)]
   ·refine ⟨a, s, c, p1, h1', Ev.step (f := fun _ => some (a, s, c, p1, h1')) (fun k => ?_) (Ev.now _), by omega, by omega⟩
    simp only [spec_l13Edges.j0]
    rw [e, Option.bind_some, if_neg c0, if_pos c1, if_neg c3]
  ·by_cases c2 : x = 2
   ·obtain ⟨y, p2, h2, e2⟩ := pk (-2) 256 255
    refine ⟨a, s, y, p2, h2, Ev.step (f := fun _ => some (a, s, y, p2, h2)) (fun k => ?_) (Ev.now _), by omega, by omega⟩
    simp only [spec_l13Edges.j0]
    rw [e, Option.bind_some, if_neg c0, if_neg c1, if_pos c2, e2, Option.bind_some]
   ·refine ⟨a, s, c, p1, h1', Ev.step (f := fun _ => some (a, s, c, p1, h1')) (fun k => ?_) (Ev.now _), by omega, by omega⟩
    simp only [spec_l13Edges.j0]
    rw [e, Option.bind_some, if_neg c0, if_neg c1, if_neg c2]
theorem edges_draw (b : List Int) (hb : b.length ≤ 140737488351232) (p h : Int) (h0 : 0 ≤ p) (h1 : p ≤ (b.length : Int)) :
  ∃ a s c p' h', Ev (fun k => spec_l13Edges.f k b p h) (a, s, c, p', h') ∧ a.length ≤ 9 ∧ s.length ≤ 8 := by
 obtain ⟨r1, p1, h1', e1, l1, _, a0, a1⟩ := dots_ev b hb p h 8 (by omega) h0 h1
 obtain ⟨r2, p2, h2', e2, l2, _, b0, b1⟩ := dots_ev b hb p1 h1' 8 (by omega) a0 a1
 obtain ⟨x, p3, h3, e3, _, _, c0, c1⟩ := byte_at b hb p2 h2' b0 b1
 obtain ⟨y, p4, h4, e4, _, _, d0, d1⟩ := below_at b hb p3 h3 8 c0 c1 (by omega)
 have f1 := ints_ev (strOfNums r1) (by rw [strOfNums_size]; omega)
 have f2 := ints_ev (strOfNums r2) (by rw [strOfNums_size]; omega)
 have L1 : (bytesOf (strOfNums r1)).length = 8 := by rw [bytesOf_length, strOfNums_size, l1]
 have L2 : (bytesOf (strOfNums r2)).length = 8 := by rw [bytesOf_length, strOfNums_size, l2]
 have fin : ∀ a s c, a.length ≤ 8 → (s.length = 0 ∨ s.length = 8) → ∃ a' s' c' p' h', Ev (fun k => spec_l13Edges.j0 k b p4 h4 a s c) (a', s', c', p', h') ∧ a'.length ≤ 9 ∧ s'.length ≤ 8 := fun a s c ha hs => edges_j0 b hb p4 h4 d0 d1 a s c ha hs
 have key : ∀ {v : List Int × List Int × Int × Int × Int}, Ev (fun k => if y = 0 then (spec_l13Edges.j0 k b p4 h4 (([] : List Int)) (bytesOf (strOfNums r2)) (-1)) else (if y = 1 then (spec_l13Edges.j0 k b p4 h4 (bytesOf (strOfNums r1)) (([] : List Int)) (-1)) else (if y = 2 then (spec_l13Edges.j0 k b p4 h4 ([] : List Int) ([] : List Int) (-1)) else (spec_l13Edges.j0 k b p4 h4 (bytesOf (strOfNums r1)) (bytesOf (strOfNums r2)) x)))) v → Ev (fun k => spec_l13Edges.f k b p h) v := by
  intro v hv
  unfold spec_l13Edges.f
  refine Ev.bind e1 (Ev.bind f1 (Ev.bind e2 (Ev.bind f2 ?_)))
  simp only [e3, e4, Option.bind_some]
  exact hv
 by_cases y0 : y = 0
 ·obtain ⟨a', s', c', p', h', e, l⟩ := fin [] (bytesOf (strOfNums r2)) (-1) (by simp) (by omega)
  exact ⟨a', s', c', p', h', key (Ev.congr (fun k => by rw [if_pos y0]) e), l⟩
 ·by_cases y1 : y = 1
  ·obtain ⟨a', s', c', p', h', e, l⟩ := fin (bytesOf (strOfNums r1)) [] (-1) (by omega) (by simp)
   exact ⟨a', s', c', p', h', key (Ev.congr (fun k => by rw [if_neg y0, if_pos y1]) e), l⟩
  ·by_cases y2 : y = 2
   ·obtain ⟨a', s', c', p', h', e, l⟩ := fin [] [] (-1) (by simp) (by simp)
    exact ⟨a', s', c', p', h', key (Ev.congr (fun k => by rw [if_neg y0, if_neg y1, if_pos y2]) e), l⟩
   ·obtain ⟨a', s', c', p', h', e, l⟩ := fin (bytesOf (strOfNums r1)) (bytesOf (strOfNums r2)) x (by omega) (by omega)
    exact ⟨a', s', c', p', h', key (Ev.congr (fun k => by rw [if_neg y0, if_neg y1, if_neg y2]) e), l⟩
theorem drawedges_ev (l : List Int) (hl : l.length ≤ 140737488351232) : ∃ a s c, Ev (fun k => spec_DrawEdges.f k l) (a, s, c) ∧ EdR a s c := by
 obtain ⟨h, e⟩ := new_ev l hl
 obtain ⟨a, s, c, p', h', e2, la, ls⟩ := edges_draw l hl 0 h (by omega) (by omega)
 have e3 := sedges_ev a s c (by omega) (by omega)
 cases hb : edgesB a s c with
 | true =>
  refine ⟨a, s, c, ?_, edgesB_right hb⟩
  unfold spec_DrawEdges.f
  refine Ev.bind e (Ev.bind e2 (Ev.bind e3 ?_))
  simp only [hb, if_true]
  exact Ev.now _
 | false =>
  refine ⟨[], [], -1, ?_, ⟨.inl rfl, .inl rfl, by simp, by simp, by omega⟩⟩
  unfold spec_DrawEdges.f
  refine Ev.bind e (Ev.bind e2 (Ev.bind e3 ?_))
  simp only [hb, Bool.false_eq_true, if_false]
  exact Ev.now _
theorem guessR_right {mode : Int} {a l : List Int} {c : Int} (hm : 0 ≤ mode ∧ mode ≤ 3) (h : EdR a l c) : guessR mode a l c = guessV mode a l c := by
 unfold guessR
 rw [if_pos ⟨right_edgesB h, hm⟩]
theorem gsum_in (a b : List Int) (ha : ∀ i : Nat, i < 64 → 0 ≤ rd a (i : Int) ∧ rd a (i : Int) ≤ 255) (hb : ∀ i : Nat, i < 64 → 0 ≤ rd b (i : Int) ∧ rd b (i : Int) ≤ 255) (n : Nat) :
  ∀ (i : Nat) (s : Int), i + n ≤ 64 → 0 ≤ s → s ≤ 255 * (i : Int) → 0 ≤ gsum a b n i s ∧ gsum a b n i s ≤ 16320 := by
 induction n with
 | zero => intro i s hi h0 h1; rw [gsum]; omega
 | succ n ih =>
  intro i s hi h0 h1
  have r1 := ha i (by omega)
  have r2 := hb i (by omega)
  rw [gsum]
  generalize rd a (i : Int) = x at r1 ⊢
  generalize rd b (i : Int) = y at r2 ⊢
  rw [wrap_id (x := x - y) (by omega) (by omega), wrap_id (x := -(x - y)) (by omega) (by omega)]
  have hm : 0 ≤ mx (x - y) (-(x - y)) ∧ mx (x - y) (-(x - y)) ≤ 255 := by unfold mx; split <;> omega
  generalize mx (x - y) (-(x - y)) = z at hm ⊢
  rw [wrap_id (x := s + z) (by omega) (by omega)]
  exact ih (i + 1) (s + z) (by omega) (by omega) (by omega)
theorem cost_eq {w a l : List Int} {c : Int} (hw : w.length = 64) (bw : ∀ x ∈ w, 0 ≤ x ∧ x ≤ 255) (h : EdR a l c) (m : Nat) : 0 ≤ costV w a l c m := by
 have hg := gsum_in w (guessV (m : Int) a l c) (fun i hi => rd_mem bw (i : Int) (by omega) (by omega)) (fun i hi => rd_mem (guessV_in h) (i : Int) (by omega) (by rw [guessV_len]; omega)) 64 0 0 (by omega) (by omega) (by omega)
 have hu := ueL_len m
 unfold costV
 generalize gsum w (guessV (m : Int) a l c) 64 0 0 = x at hg ⊢
 rw [wrap_id (by omega) (by omega)]
 omega
/-- The best one of what was looked at so far. -/
def BestOf (f : Nat → Int) (m : Nat) (b s : Int) : Prop := (m = 0 ∧ b = 0 ∧ s = -1) ∨ ∃ B : Nat, b = (B : Int) ∧ s = f B ∧ B < m ∧ ∀ j : Nat, j < m → f B ≤ f j ∧ (f j = f B → B ≤ j)
theorem bestL_best (f : Nat → Int) (hf : ∀ m, 0 ≤ f m) (n : Nat) : ∀ (m : Nat) (b s : Int), BestOf f m b s → BestOf f (m + n) (bestL f n m b s).1 (bestL f n m b s).2 := by
 induction n with
 | zero => intro m b s h; exact h
 | succ n ih =>
  intro m b s h
  rw [show m + (n + 1) = (m + 1) + n by omega, bestL]
  have new : (∀ j : Nat, j < m → f m < f j) → BestOf f (m + 1) (m : Int) (f m) := by
   intro hj
   refine .inr ⟨m, rfl, rfl, by omega, ?_⟩
   intro j hjm
   by_cases e : j = m
   ·subst e; exact ⟨Int.le_refl _, fun _ => Nat.le_refl _⟩
   ·have := hj j (by omega)
    exact ⟨by omega, fun e2 => by omega⟩
  rcases h with ⟨h0, hb, hs⟩ | ⟨B, hb, hs, hB, hj⟩
  ·rw [if_pos (by omega)]
   exact ih _ _ _ (new (fun j hj => by omega))
  ·have hz := hf B
   rw [if_neg (by omega)]
   by_cases c : f m < s
   ·rw [if_pos c]
    exact ih _ _ _ (new (fun j hjm => by have := (hj j hjm).1; omega))
   ·rw [if_neg c]
    refine ih _ _ _ (.inr ⟨B, hb, hs, by omega, ?_⟩)
    intro j hjm
    by_cases e : j = m
    ·subst e; exact ⟨by omega, fun _ => by omega⟩
    ·exact hj j (by omega)
theorem bestlaw_loop (w a l : List Int) (c : Int) (hw : w.length = 64) (bw : ∀ x ∈ w, 0 ≤ x ∧ x ≤ 255) (h : EdR a l c) (B : Nat)
  (hj : ∀ j : Nat, j < 4 → costV w a l c B ≤ costV w a l c j ∧ (costV w a l c j = costV w a l c B → B ≤ j)) :
  ∀ m : Nat, m ≤ 4 → Ev (fun k => laws_FnBestGuess.l0 k w (B : Int) (costV w a l c B) (m : Int) a l c) true := by
 have la : a.length ≤ 8 := by rcases h.la with e | e <;> omega
 have ll : l.length ≤ 8 := by rcases h.ll with e | e <;> omega
 refine down 4 ?_ ?_
 ·refine Ev.step (f := fun _ => some true) (fun k => ?_) (Ev.now _)
  simp only [laws_FnBestGuess.l0]
  rw [if_neg (by omega)]
 ·intro m hm h'
  have hjm := hj m hm
  have hg := guessof_ev (m : Int) a l c (by omega) (by omega)
  rw [guessR_right (by omega) h] at hg
  have hgap := gapof_ev w (guessV (m : Int) a l c) (by omega) (by rw [guessV_len]; omega)
  rw [if_pos (gap_okd hw bw h)] at hgap
  have hue := uesize_ev m hm
  have hlen : ([] : List Int).length + w.length < 17592186044416 := by simp; omega
  have p1 : (m : Int) < 4 := by omega
  have hc : costV w a l c m = wrap64 (gsum w (guessV (m : Int) a l c) 64 0 0 + ((ueL m).length : Int)) := rfl
  generalize hcm : costV w a l c m = u at hjm hc
  have w1 : wrap64 ((m : Int) + 1) = ((m + 1 : Nat) : Int) := by clear hc; exact wrap_id (by omega) (by omega)
  refine Ev.step (fun k => by simp only [laws_FnBestGuess.l0]; rw [if_pos p1, Option.bind_some, if_pos hlen, List.nil_append]) (Ev.bind hg (Ev.bind hgap (Ev.bind hue ?_)))
  rw [← hc]
  clear hc w1 hg hgap hue
  have w1 : wrap64 ((m : Int) + 1) = ((m + 1 : Nat) : Int) := wrap_id (by omega) (by omega)
  have q0 : ¬ (u < costV w a l c B) := by clear w1; omega
  by_cases e : u = costV w a l c B
  ·have hBm := hjm.2 e
   have q1 : ¬ ((m : Int) < (B : Int)) := by clear w1; omega
   simp only [q0, e, q1, if_false, if_true, ite_self, w1, Int.lt_irrefl]
   exact h'
  ·have q1 : ¬ ((m : Int) = (B : Int)) := fun e2 => e (by rw [← hcm]; congr 1; clear w1; omega)
   simp only [q0, e, q1, if_false, w1]
   exact h'
theorem FnBestGuess : laws_FnBestGuess.Pure := by
 intro l _ hl _
 rw [Nat.mul_one] at hl
 refine Ev.rounds ?_
 unfold laws_FnBestGuess.f laws_big.f
 simp only [Option.bind_some]
 by_cases c : (l.length : Int) > 1048576
 ·simp only [c, decide_true, if_true]; exact Ev.now _
 ·simp only [c, decide_false, Bool.false_eq_true, if_false]
  obtain ⟨a, s, e, he, hr⟩ := drawedges_ev l hl
  obtain ⟨w, hwe, lw, bw⟩ := want_ev l hl
  have la : a.length ≤ 8 := by rcases hr.la with e | e <;> omega
  have ll : s.length ≤ 8 := by rcases hr.ll with e | e <;> omega
  have hI := best_ev w a s e (by omega) (by omega) (by omega)
  have hS := sbest_ev w a s e (by omega) (by omega) (by omega)
  have hv : bestV w a s e = bestL (costV w a s e) 4 0 0 (-1) := by
   unfold bestV
   rw [if_pos ⟨right_edgesB hr, dotsB_iff.2 ⟨lw, bw⟩⟩]
  rw [hv] at hI hS
  have hb := bestL_best (costV w a s e) (cost_eq lw bw hr) 4 0 0 (-1) (.inl ⟨rfl, rfl, rfl⟩)
  generalize bestL (costV w a s e) 4 0 0 (-1) = v at hI hS hb
  obtain ⟨v1, v2⟩ := v
  rcases hb with ⟨h0, _⟩ | ⟨B, h1, h2, hB, hj⟩
  ·omega
  ·have h1' : v1 = (B : Int) := h1
   have h2' : v2 = costV w a s e B := h2
   subst h1' h2'
   have hlen : ([] : List Int).length + w.length < 17592186044416 := by simp; omega
   have hz := cost_eq lw bw hr B
   have hd : decide (costV w a s e B < 0) = false := decide_eq_false (by omega)
   have q1 : ¬ ((B : Int) < 0) := by omega
   have q2 : ¬ ((B : Int) > 3) := by omega
   have hloop := bestlaw_loop w a s e lw bw hr B (fun j hj' => hj j (by omega)) 0 (by omega)
   have hj0 : Ev (fun k => laws_FnBestGuess.j0 k w (B : Int) (costV w a s e B) false a s e) true := Ev.step (fun k => by simp only [laws_FnBestGuess.j0, Bool.false_eq_true, if_false] <;> rfl) hloop
   refine Ev.bind he (Ev.bind hwe ?_)
   simp only [Option.bind_some, hlen, if_true, List.nil_append]
   refine Ev.bind hI (Ev.bind hwe (Ev.bind he (Ev.bind hS ?_)))
   simp only [if_true, q1, q2, if_false, hd]
   exact hj0
end Go.Proofs.Ythhlibbihkbmfaa.Pure