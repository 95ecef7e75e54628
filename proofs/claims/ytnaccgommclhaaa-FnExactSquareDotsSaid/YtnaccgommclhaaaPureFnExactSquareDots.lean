/- The program's SquareDots answers what the reference's SquareDots answers, for all pictures, places, conditions and squares, in new memory, and leaves its arguments as they were. No condition beside the row's own. -/
import Derived.Test.YtnaccgommclhaaaQFnExactSquareDotsx28
namespace Go.Proofs.Ytnaccgommclhaaa.Pure
open Go.RowKit Go.Proofs.Ytnaccgommclhaaa.QFnExactSquareDots Go.Proofs.YtnaccgommclhaaaW.PrintWords Go.Proofs.YtnaccgommclhaaaW.PrintLast Go.Proofs.YtnaccgommclhaaaW.PrintMore Go.Proofs.YtnaccgommclhaaaV
set_option linter.unusedVariables false
set_option linter.unusedSimpArgs false
theorem wrap_id {x : Int} (h0 : -9223372036854775808 ≤ x) (h1 : x ≤ 9223372036854775807) : wrap64 x = x := by
 unfold wrap64
 omega
theorem within_eq (a b c : Int) : impl_within.f a b c = some (decide (b ≤ a ∧ a ≤ c)) := by
 unfold impl_within.f
 by_cases h : a ≥ b
 ·rw [if_pos h]; congr 1; rw [decide_eq_decide]; omega
 ·rw [if_neg h]; congr 1; symm; rw [decide_eq_false_iff_not]; omega
theorem in_eq (a b c : Int) : spec_l01In.f a b c = some (decide (b ≤ a ∧ a ≤ c)) := by
 unfold spec_l01In.f
 by_cases h : a ≥ b
 ·rw [if_pos h]; congr 1; rw [decide_eq_decide]; omega
 ·rw [if_neg h]; congr 1; symm; rw [decide_eq_false_iff_not]; omega
theorem down {P : Nat → Prop} (n : Nat) (h0 : P n) (hs : ∀ i, i < n → P (i + 1) → P i) : ∀ i, i ≤ n → P i := by
 intro i hi
 obtain ⟨d, hd⟩ : ∃ d, d = n - i := ⟨_, rfl⟩
 induction d generalizing i with
 | zero =>
  have : i = n := by omega
  subst this; exact h0
 | succ d ih => exact hs i (by omega) (ih (i + 1) (by omega) (by omega))
theorem rd_nat (l : List Int) (i : Nat) (h : i < l.length) : rd l (i : Int) = l[i] := by
 unfold rd
 rw [List.getD_eq_getElem?_getD, Int.toNat_natCast, List.getElem?_eq_getElem h]; rfl
theorem cast1 (i : Nat) : ((i : Nat) : Int) + 1 = ((i + 1 : Nat) : Int) := rfl
theorem mix_set {α : Type} (l z : List α) (i : Nat) (hi : i < l.length) (hz : i < z.length) : (l.take i ++ z.drop i).set i l[i] = l.take (i + 1) ++ z.drop (i + 1) := by
 rw [List.set_append_right _ _ (by simp; omega)]
 rw [show i - (l.take i).length = 0 by simp; omega]
 rw [List.drop_eq_getElem_cons hz, List.set_cons_zero, List.take_succ_eq_append_getElem hi, List.append_assoc]; rfl
theorem mix_length {α : Type} (l z : List α) (i : Nat) (h : l.length = z.length) (hi : i ≤ l.length) : (l.take i ++ z.drop i).length = l.length := by
 simp; omega
theorem mix_end {α : Type} (l z : List α) (h : l.length = z.length) : l.take l.length ++ z.drop l.length = l := by
 rw [List.take_length, h, List.drop_length, List.append_nil]
theorem mix_zero {α : Type} (l z : List α) : l.take 0 ++ z.drop 0 = z := by simp
theorem drop_cons {α : Type} {l : List α} {i : Nat} (h : i < l.length) : l.drop i = l[i] :: l.drop (i + 1) := List.drop_eq_getElem_cons h
theorem toInts_ev (l : List Int) (hl : l.length ≤ 17592186043904) : Ev (fun k => laws_toIntS.f k l) l := by
 have H : ∀ i, i ≤ l.length → Ev (fun k => laws_toIntS.l0 k l (l.take i ++ (List.replicate l.length (0 : Int)).drop i) (i : Int)) l := by
  refine down l.length ?_ ?_
  ·refine Ev.step (f := fun _ => some l) (fun k => ?_) (Ev.now _)
   simp only [laws_toIntS.l0]
   rw [if_neg (by omega), mix_end _ _ (by simp)]
  ·intro i hi h
   refine Ev.step (fun k => ?_) h
   simp only [laws_toIntS.l0]
   rw [if_pos (by omega), if_pos (by omega), if_pos (by rw [mix_length _ _ _ (by simp) (by omega)]; omega), rd_nat l i hi, Int.toNat_natCast, mix_set _ _ _ hi (by simp; exact hi), wrap_id (by omega) (by omega), cast1]
 have h0 := H 0 (by omega)
 rw [mix_zero] at h0
 unfold laws_toIntS.f
 refine Ev.congr (fun k => ?_) h0
 rw [if_pos (by omega), if_pos (by simp; omega), Int.toNat_natCast]; rfl
theorem eqInts_ev (a b : List Int) (ha : a.length ≤ 17592186043904) : Ev (fun k => laws_eqIntS.f k a b) (decide (a = b)) := by
 by_cases hl : a.length = b.length
 ·have H : ∀ i, i ≤ a.length → Ev (fun k => laws_eqIntS.l0 k a b (i : Int)) (decide (a.drop i = b.drop i)) := by
   refine down a.length ?_ ?_
   ·refine Ev.step (f := fun _ => some true) (fun k => ?_) ?_
    ·simp only [laws_eqIntS.l0]
     rw [if_neg (by omega)]
    ·rw [show decide (a.drop a.length = b.drop a.length) = true by rw [hl]; simp [← hl]]; exact Ev.now _
   ·intro i hi h
    have hb : i < b.length := by omega
    by_cases c : a[i] = b[i]
    ·have e : decide (a.drop i = b.drop i) = decide (a.drop (i + 1) = b.drop (i + 1)) := by
      rw [decide_eq_decide, drop_cons hi, drop_cons hb, c, List.cons.injEq]; simp only [true_and]
     rw [e]
     refine Ev.step (fun k => ?_) h
     simp only [laws_eqIntS.l0]
     rw [if_pos (by omega), if_pos (by omega), if_pos (by omega), rd_nat a i hi, rd_nat b i hb, if_pos c, wrap_id (by omega) (by omega), cast1]
    ·have e : decide (a.drop i = b.drop i) = false := by
      rw [decide_eq_false_iff_not, drop_cons hi, drop_cons hb, List.cons.injEq]; exact fun h => c h.1
     rw [e]
     refine Ev.step (f := fun _ => some false) (fun k => ?_) (Ev.now _)
     simp only [laws_eqIntS.l0]
     rw [if_pos (by omega), if_pos (by omega), if_pos (by omega), rd_nat a i hi, rd_nat b i hb, if_neg c]
  have h0 := H 0 (by omega)
  unfold laws_eqIntS.f
  refine Ev.congr (fun k => ?_) h0
  rw [if_pos (by omega)]; rfl
 ·unfold laws_eqIntS.f
  rw [show decide (a = b) = false from decide_eq_false (fun h => hl (by rw [h]))]
  refine Ev.congr (f := fun _ => some false) (fun k => ?_) (Ev.now _)
  rw [if_neg (by omega)]
/-- All numbers of a list are from lo to hi. -/
def allB (lo hi : Int) (l : List Int) : Bool := l.all fun x => decide (lo ≤ x ∧ x ≤ hi)
theorem allB_cons (lo hi x : Int) (l : List Int) : allB lo hi (x :: l) = (decide (lo ≤ x ∧ x ≤ hi) && allB lo hi l) := rfl
theorem allB_iff {lo hi : Int} {l : List Int} : allB lo hi l = true ↔ ∀ x ∈ l, lo ≤ x ∧ x ≤ hi := by
 unfold allB
 rw [List.all_eq_true]
 simp only [decide_eq_true_eq]
theorem areIn_ev (l : List Int) (n lo hi : Int) (hl : l.length ≤ 17592186043904) : Ev (fun k => impl_areIn.f k l n lo hi) (decide ((l.length : Int) = n) && allB lo hi l) := by
 have H : ∀ i, i ≤ l.length → Ev (fun k => impl_areIn.l0 k l n lo hi l (l.length : Int) (i : Int)) (decide ((l.length : Int) = n) && allB lo hi (l.drop i)) := by
  refine down l.length ?_ ?_
  ·refine Ev.step (f := fun _ => some (decide ((l.length : Int) = n))) (fun k => ?_) ?_
   ·simp only [impl_areIn.l0]
    rw [if_neg (by omega)]; congr 1
   ·rw [List.drop_length]; simp only [allB, List.all_nil, Bool.and_true]; exact Ev.now _
  ·intro i h1 h
   rw [drop_cons h1, allB_cons]
   by_cases c : lo ≤ l[i] ∧ l[i] ≤ hi
   ·rw [decide_eq_true c, Bool.true_and]
    refine Ev.step (fun k => ?_) h
    simp only [impl_areIn.l0]
    rw [if_pos (by omega), if_pos (by omega), if_pos (by omega), rd_nat l i h1, within_eq, Option.bind_some, if_pos (decide_eq_true c), wrap_id (by omega) (by omega), cast1]
   ·rw [decide_eq_false c, Bool.false_and, Bool.and_false]
    refine Ev.step (f := fun _ => some false) (fun k => ?_) (Ev.now _)
    simp only [impl_areIn.l0]
    rw [if_pos (by omega), if_pos (by omega), if_pos (by omega), rd_nat l i h1, within_eq, Option.bind_some, if_neg (by simpa using c)]
 exact H 0 (by omega)
theorem all_ev (l : List Int) (n m : Int) (hl : l.length ≤ 17592186043904) (hm : 0 ≤ m) (hm' : m ≤ 1000000000) : Ev (fun k => spec_l09All.f k l n m) (decide ((l.length : Int) = n) && allB (-m) m l) := by
 unfold spec_l09All.f
 by_cases hn : (l.length : Int) = n
 ·subst hn
  have H : ∀ i, i ≤ l.length → Ev (fun k => spec_l09All.l0 k l (l.length : Int) m (i : Int)) (allB (-m) m (l.drop i)) := by
   refine down l.length ?_ ?_
   ·refine Ev.step (f := fun _ => some true) (fun k => ?_) ?_
    ·simp only [spec_l09All.l0]
     rw [if_neg (by omega)]
    ·rw [List.drop_length]; exact Ev.now _
   ·intro i h1 h
    rw [drop_cons h1, allB_cons]
    by_cases c : -m ≤ l[i] ∧ l[i] ≤ m
    ·rw [decide_eq_true c, Bool.true_and]
     refine Ev.step (fun k => ?_) h
     simp only [spec_l09All.l0]
     rw [if_pos (by omega), if_pos (by omega), if_pos (by omega), rd_nat l i h1, wrap_id (x := -m) (by omega) (by omega), in_eq, Option.bind_some, if_pos (decide_eq_true c), wrap_id (by omega) (by omega), cast1]
    ·rw [decide_eq_false c, Bool.false_and]
     refine Ev.step (f := fun _ => some false) (fun k => ?_) (Ev.now _)
     simp only [spec_l09All.l0]
     rw [if_pos (by omega), if_pos (by omega), if_pos (by omega), rd_nat l i h1, wrap_id (x := -m) (by omega) (by omega), in_eq, Option.bind_some, if_neg (by simpa using c)]
  refine Ev.congr (fun k => by rw [if_pos rfl]) ?_
  rw [decide_eq_true rfl, Bool.true_and]
  exact H 0 (by omega)
 ·rw [decide_eq_false hn, Bool.false_and]
  exact Ev.congr (f := fun _ => some false) (fun k => by rw [if_neg hn]) (Ev.now _)
/-- Guess and difference, joined. -/
def joinv (g d : List Int) : List Int := List.zipWith (fun a b => mx 0 (mn (a + b) 255)) g d
def JOk (g d : List Int) : Prop := (g.length = 64 ∧ allB 0 255 g = true) ∧ (d.length = 64 ∧ allB (-10000000) 10000000 d = true)
instance (g d : List Int) : Decidable (JOk g d) := by unfold JOk; infer_instance
theorem joinv_len {g d : List Int} (h : JOk g d) : (joinv g d).length = 64 := by
 unfold joinv; rw [List.length_zipWith, h.1.1, h.2.1]; rfl
theorem joinv_get (g d : List Int) (i : Nat) (h : i < (joinv g d).length) (hg : i < g.length) (hd : i < d.length) : (joinv g d)[i] = mx 0 (mn (g[i] + d[i]) 255) := by
 simp only [joinv, List.getElem_zipWith]
theorem len_decj (l : List Int) (n : Nat) (m : Int) (h : m = (n : Int)) : decide ((l.length : Int) = m) = decide (l.length = n) := by rw [decide_eq_decide]; omega
theorem and_false' {a b : Bool} {p : Prop} [Decidable p] (ha : a = decide p) (h : ¬ (p ∧ b = true)) : (a && b) = false := by
 subst ha
 rw [Bool.eq_false_iff]; intro h'; rw [Bool.and_eq_true, decide_eq_true_eq] at h'; exact h h'
theorem join_loop (g d : List Int) (h : JOk g d) : ∀ i : Nat, i ≤ 64 → Ev (fun k => impl_Joined.l0 k d ((joinv g d).take i) g 64 (i : Int)) (joinv g d) := by
 have hj := joinv_len h
 obtain ⟨⟨hg, bg⟩, hd, bd⟩ := h
 refine down 64 ?_ ?_
 ·refine Ev.step (f := fun _ => some (joinv g d)) (fun k => ?_) (Ev.now _)
  simp only [impl_Joined.l0]
  rw [if_neg (by omega), List.take_of_length_le (by omega)]
 ·intro i hi hh
  refine Ev.step (fun k => ?_) hh
  have r1 := allB_iff.1 bg _ (List.getElem_mem (show i < g.length by omega))
  have r2 := allB_iff.1 bd _ (List.getElem_mem (show i < d.length by omega))
  have e := joinv_get g d i (by omega) (by omega) (by omega)
  simp only [impl_Joined.l0, impl_Brought.f, Option.bind_some]
  rw [if_pos (by omega), if_pos (by omega), if_pos (by omega), if_pos (by omega), if_pos (by simp; omega), rd_nat g i (by omega), rd_nat d i (by omega), wrap_id (x := g[i] + d[i]) (by omega) (by omega), ← e, ← List.take_succ_eq_append_getElem (by omega), wrap_id (x := (i : Int) + 1) (by omega) (by omega), cast1]
theorem joined_ev (g d : List Int) (hg : g.length ≤ 17592186043904) (hd : d.length ≤ 17592186043904) : Ev (fun k => impl_Joined.f k g d) (if JOk g d then joinv g d else []) := by
 unfold impl_Joined.f
 simp only [Option.bind_some]
 have hbad : Ev (fun k => impl_Joined.j0 k g d [] true) [] := Ev.step (f := fun _ => some []) (fun k => by simp only [impl_Joined.j0]; rfl) (Ev.now _)
 refine Ev.bind (areIn_ev g 64 0 255 hg) ?_
 rw [len_decj g 64 64 rfl]
 by_cases c1 : g.length = 64 ∧ allB 0 255 g = true
 ·rw [decide_eq_true c1.1, c1.2]
  simp only [Bool.and_self, if_true]
  refine Ev.bind (areIn_ev d 64 (-10000000) 10000000 hd) ?_
  rw [len_decj d 64 64 rfl]
  by_cases c2 : d.length = 64 ∧ allB (-10000000) 10000000 d = true
  ·rw [if_pos ⟨c1, c2⟩, decide_eq_true c2.1, c2.2]
   simp only [Bool.and_self, Bool.not_true]
   refine Ev.step (fun k => by simp only [impl_Joined.j0, Bool.false_eq_true, if_false]; rfl) ?_
   rw [c1.1]
   exact join_loop g d ⟨c1, c2⟩ 0 (by omega)
  ·rw [if_neg (fun h => c2 h.2), and_false' rfl c2]
   simp only [Bool.not_false]; exact hbad
 ·rw [if_neg (fun h => c1 h.1), and_false' rfl c1]
  simp only [Bool.false_eq_true, if_false]; exact hbad
theorem sz_pic (w h : Int) (d : ByteArray) (left : Int) (hd : d.size ≤ maxLen) (h0 : 0 ≤ left) (h1 : left ≤ 1048576) : ∃ r, laws_szPic.f w h d left = some r ∧ (r = -1 ∨ (r = left - (d.size : Int) ∧ 0 ≤ r)) := by
 unfold maxLen at hd
 unfold laws_szPic.f
 rw [wrap_id (x := left - (d.size : Int)) (by omega) (by omega)]
 by_cases c : left - (d.size : Int) < 0
 ·rw [if_pos c]; exact ⟨_, rfl, .inl rfl⟩
 ·rw [if_neg c]; exact ⟨_, rfl, .inr ⟨rfl, by omega⟩⟩
/-- What a right picture is. -/
def PicR (w h : Int) (d : ByteArray) : Prop := (1 ≤ w ∧ w ≤ 256) ∧ (1 ≤ h ∧ h ≤ 256) ∧ (d.size : Int) = w * h
instance (w h : Int) (d : ByteArray) : Decidable (PicR w h d) := by unfold PicR; infer_instance
theorem small_mul {w h a b : Int} (h0 : 0 ≤ w) (h1 : w ≤ a) (h2 : 0 ≤ h) (h3 : h ≤ b) : 0 ≤ w * h ∧ w * h ≤ a * b := by
 refine ⟨Int.mul_nonneg h0 h2, ?_⟩
 exact Int.mul_le_mul h1 h3 h2 (by omega)
theorem pic_some (w h : Int) (d : ByteArray) : spec_PicOk.f w h d = some (decide (PicR w h d)) := by
 unfold spec_PicOk.f PicR
 simp only [in_eq, Option.bind_some]
 by_cases c : 1 ≤ w ∧ w ≤ 256
 ·by_cases c2 : 1 ≤ h ∧ h ≤ 256
  ·have hm := small_mul (w := w) (h := h) (a := 256) (b := 256) (by omega) c.2 (by omega) c2.2
   simp only [c, c2, decide_true, if_true, true_and, and_self]
   rw [wrap_id (by omega) (by omega)]
   rfl
  ·simp only [c, c2, decide_true, decide_false, if_true, true_and, false_and, and_self]
   rfl
 ·simp only [c, decide_false, false_and]
  rfl
theorem ipic_some (w h : Int) (d : ByteArray) : impl_PicOk.f w h d = some (decide (PicR w h d)) := by
 unfold impl_PicOk.f PicR
 simp only [within_eq, Option.bind_some]
 by_cases c : 1 ≤ w ∧ w ≤ 256
 ·by_cases c2 : 1 ≤ h ∧ h ≤ 256
  ·have hm := small_mul (w := w) (h := h) (a := 256) (b := 256) (by omega) c.2 (by omega) c2.2
   simp only [c, c2, decide_true, if_true, true_and, and_self]
   rw [wrap_id (by omega) (by omega)]
   rfl
  ·simp only [c, c2, decide_true, decide_false, if_true, true_and, false_and, and_self]
   rfl
 ·simp only [c, decide_false, false_and]
  rfl
theorem brought_ev (n lo hi : Int) : Ev (fun k => spec_Brought.f k n lo hi) (mx lo (mn n hi)) := by
 unfold spec_Brought.f
 unfold mx mn
 by_cases c : hi < lo
 ·refine Ev.congr (fun k => by rw [if_pos c]) (Ev.step (f := fun _ => some lo) (fun k => by simp only [spec_Brought.j0]; rfl) ?_)
  have e : (if lo < (if hi < n then hi else n) then (if hi < n then hi else n) else lo) = lo := by repeat' split <;> omega
  rw [e]; exact Ev.now _
 ·by_cases c2 : n < lo
  ·refine Ev.congr (fun k => by rw [if_neg c, show decide (n < lo) = true from decide_eq_true c2]) (Ev.step (f := fun _ => some lo) (fun k => by simp only [spec_Brought.j0]; rfl) ?_)
   have e : (if lo < (if hi < n then hi else n) then (if hi < n then hi else n) else lo) = lo := by repeat' split <;> omega
   rw [e]; exact Ev.now _
  ·refine Ev.congr (fun k => by rw [if_neg c, show decide (n < lo) = false from decide_eq_false c2]) (Ev.step (f := fun _ => if n > hi then some hi else some n) (fun k => by simp only [spec_Brought.j0]; rfl) ?_)
   by_cases c3 : n > hi
   ·have e : (if lo < (if hi < n then hi else n) then (if hi < n then hi else n) else lo) = hi := by repeat' split <;> omega
    rw [e]; simp only [c3, if_true]; exact Ev.now _
   ·have e : (if lo < (if hi < n then hi else n) then (if hi < n then hi else n) else lo) = n := by repeat' split <;> omega
    rw [e]; simp only [c3, if_false]; exact Ev.now _
theorem mx0 {n hi : Int} (h : 0 ≤ hi) : 0 ≤ mx 0 (mn n hi) ∧ mx 0 (mn n hi) ≤ hi := by unfold mx mn; repeat' split <;> omega
def dotv (w h : Int) (d : ByteArray) (x y : Int) : Int := bt d (mx 0 (mn y (h - 1)) * w + mx 0 (mn x (w - 1)))
theorem spot {w h X Y : Int} (hw : 1 ≤ w) (hX : 0 ≤ X ∧ X ≤ w - 1) (hY : 0 ≤ Y ∧ Y ≤ h - 1) : 0 ≤ Y * w ∧ 0 ≤ Y * w + X ∧ Y * w + X < w * h := by
 have h1 : 0 ≤ Y * w := Int.mul_nonneg hY.1 (by omega)
 have h2 : Y * w ≤ (h - 1) * w := Int.mul_le_mul_of_nonneg_right hY.2 (by omega)
 have h3 : (h - 1) * w = w * h - w := by rw [Int.sub_mul, Int.one_mul, Int.mul_comm]
 omega
theorem dotv_range (w h : Int) (d : ByteArray) (x y : Int) : 0 ≤ dotv w h d x y ∧ dotv w h d x y ≤ 255 := bt_range _ _
theorem dot_eq (w h : Int) (d : ByteArray) (x y : Int) (hp : PicR w h d) : impl_Pic_dot.f w h d x y = some (dotv w h d x y) := by
 obtain ⟨hw, hh, hd⟩ := hp
 unfold impl_Pic_dot.f impl_Brought.f
 simp only [Option.bind_some]
 rw [wrap_id (x := h - 1) (by omega) (by omega), wrap_id (x := w - 1) (by omega) (by omega)]
 have hX := mx0 (n := x) (hi := w - 1) (by omega)
 have hY := mx0 (n := y) (hi := h - 1) (by omega)
 have hs := spot hw.1 hX hY
 have hm := small_mul (w := w) (h := h) (a := 256) (b := 256) (by omega) hw.2 (by omega) hh.2
 rw [wrap_id (x := mx 0 (mn y (h - 1)) * w) (by omega) (by omega), wrap_id (x := mx 0 (mn y (h - 1)) * w + mx 0 (mn x (w - 1))) (by omega) (by omega)]
 have hb := dotv_range w h d x y
 rw [if_pos hs.2.1, if_pos (by omega)]
 unfold dotv at hb ⊢
 rw [wrap_id (by omega) (by omega)]
theorem sdot_ev (w h : Int) (d : ByteArray) (x y : Int) : Ev (fun k => spec_DotAt.f k w h d x y) (if PicR w h d then dotv w h d x y else -1) := by
 unfold spec_DotAt.f
 rw [pic_some]
 simp only [Option.bind_some]
 by_cases c : PicR w h d
 ·simp only [c, decide_true, if_true]
  obtain ⟨hw, hh, hd⟩ := c
  rw [wrap_id (x := h - 1) (by omega) (by omega), wrap_id (x := w - 1) (by omega) (by omega)]
  refine Ev.bind (brought_ev y 0 (h - 1)) (Ev.bind (brought_ev x 0 (w - 1)) ?_)
  have hX := mx0 (n := x) (hi := w - 1) (by omega)
  have hY := mx0 (n := y) (hi := h - 1) (by omega)
  have hs := spot hw.1 hX hY
  have hm := small_mul (w := w) (h := h) (a := 256) (b := 256) (by omega) hw.2 (by omega) hh.2
  rw [wrap_id (x := mx 0 (mn y (h - 1)) * w) (by omega) (by omega), wrap_id (x := mx 0 (mn y (h - 1)) * w + mx 0 (mn x (w - 1))) (by omega) (by omega)]
  have hb := dotv_range w h d x y
  rw [if_pos hs.2.1, if_pos (by omega)]
  unfold dotv at hb ⊢
  rw [wrap_id (by omega) (by omega)]
  exact Ev.now _
 ·simp only [c, decide_false, Bool.false_eq_true, if_false]
  exact Ev.now _
/-- The numbers a, a + 1, .., n of them. -/
def marks : Nat → Int → List Int
 | 0, _ => []
 | n + 1, a => a :: marks n (a + 1)
theorem marks_length (n : Nat) : ∀ a, (marks n a).length = n := by
 induction n with
 | zero => intro a; rfl
 | succ n ih => intro a; simp [marks, ih]
theorem marks_get (n : Nat) : ∀ (a : Int) (i : Nat) (h : i < (marks n a).length), (marks n a)[i] = a + i := by
 induction n with
 | zero => intro a i h; simp [marks] at h
 | succ n ih =>
  intro a i h
  cases i with
  | zero => simp [marks]
  | succ i =>
   have := ih (a + 1) i (by simp [marks] at h; exact h)
   simp only [marks, List.getElem_cons_succ]
   rw [this]
   have e : ((i + 1 : Nat) : Int) = (i : Int) + 1 := rfl
   rw [e]; omega
theorem mark_ev (l : List Int) (a : Int) (hl : l.length ≤ 17592186043904) (h0 : 0 ≤ a) (h1 : a ≤ 1000000000000) : Ev (fun k => laws_markIntS.f k l a) (a + (l.length : Int), marks l.length a) := by
 have hm := marks_length l.length a
 have H : ∀ i, i ≤ l.length → Ev (fun k => laws_markIntS.l0 k ((marks l.length a).take i ++ l.drop i) (a + (i : Int)) (i : Int)) (a + (l.length : Int), marks l.length a) := by
  refine down l.length ?_ ?_
  ·refine Ev.step (f := fun _ => some (a + (l.length : Int), marks l.length a)) (fun k => ?_) (Ev.now _)
   have e := mix_end (marks l.length a) l hm
   rw [hm] at e
   simp only [laws_markIntS.l0]
   rw [e, if_neg (by rw [hm]; omega)]
  ·intro i hi h
   refine Ev.step (fun k => ?_) h
   have e := mix_set (marks l.length a) l i (by omega) hi
   rw [marks_get] at e
   simp only [laws_markIntS.l0]
   rw [if_pos (by rw [mix_length _ _ _ hm (by omega)]; omega), if_pos (by omega), Int.toNat_natCast, e, wrap_id (x := a + (i : Int) + 1) (by omega) (by omega), wrap_id (x := (i : Int) + 1) (by omega) (by omega), Int.add_assoc, cast1]
 have h := H 0 (by omega)
 rw [mix_zero] at h
 simpa [laws_markIntS.f] using h
theorem held_ev (n : Nat) (a : Int) (hl : n ≤ 17592186043904) (h0 : 0 ≤ a) (h1 : a ≤ 1000000000000) : Ev (fun k => laws_heldIntS.f k (marks n a) a) (a + (n : Int)) := by
 have hm := marks_length n a
 have H : ∀ i, i ≤ n → Ev (fun k => laws_heldIntS.l0 k (marks n a) (a + (i : Int)) (i : Int)) (a + (n : Int)) := by
  refine down n ?_ ?_
  ·refine Ev.step (f := fun _ => some (a + (n : Int))) (fun k => ?_) (Ev.now _)
   simp only [laws_heldIntS.l0]
   rw [hm, if_neg (by omega)]
  ·intro i hi h
   refine Ev.step (fun k => ?_) h
   simp only [laws_heldIntS.l0]
   rw [if_pos (by omega), if_pos (by omega), rd_nat _ i (by omega), marks_get, if_pos rfl, wrap_id (x := a + (i : Int) + 1) (by omega) (by omega), wrap_id (x := (i : Int) + 1) (by omega) (by omega), Int.add_assoc, cast1]
 have h := H 0 (by omega)
 simpa [laws_heldIntS.f] using h
theorem eqSelf_ev (a : List Int) (ha : a.length ≤ 17592186043904) : Ev (fun k => laws_eqIntS.f k a a) true := by
 have h := eqInts_ev a a ha
 rwa [decide_eq_true rfl] at h
theorem sdots_ev (l : List Int) (hl : l.length ≤ 17592186043904) : Ev (fun k => spec_l13Dots.f k l) (decide (l.length = 64) && allB 0 255 l) := by
 unfold spec_l13Dots.f
 by_cases hn : l.length = 64
 ·have H : ∀ i : Nat, i ≤ 64 → Ev (fun k => spec_l13Dots.l0 k l (i : Int)) (allB 0 255 (l.drop i)) := by
   refine down 64 ?_ ?_
   ·refine Ev.step (f := fun _ => some true) (fun k => ?_) ?_
    ·simp only [spec_l13Dots.l0]
     rw [if_neg (by omega)]
    ·rw [← hn, List.drop_length]; exact Ev.now _
   ·intro i h1 h
    have h2 : i < l.length := by omega
    rw [drop_cons h2, allB_cons]
    by_cases c : 0 ≤ l[i] ∧ l[i] ≤ 255
    ·rw [decide_eq_true c, Bool.true_and]
     refine Ev.step (fun k => ?_) h
     simp only [spec_l13Dots.l0]
     rw [if_pos (by omega), if_pos (by omega), if_pos (by omega), rd_nat l i h2, in_eq, Option.bind_some, if_pos (decide_eq_true c), wrap_id (by omega) (by omega), cast1]
    ·rw [decide_eq_false c, Bool.false_and]
     refine Ev.step (f := fun _ => some false) (fun k => ?_) (Ev.now _)
     simp only [spec_l13Dots.l0]
     rw [if_pos (by omega), if_pos (by omega), if_pos (by omega), rd_nat l i h2, in_eq, Option.bind_some, if_neg (by simpa using c)]
  refine Ev.congr (fun k => by rw [if_pos (by omega)]) ?_
  rw [decide_eq_true hn, Bool.true_and]
  exact H 0 (by omega)
 ·rw [decide_eq_false hn, Bool.false_and]
  exact Ev.congr (f := fun _ => some false) (fun k => by rw [if_neg (by omega)]) (Ev.now _)
theorem sjoin_loop (g d : List Int) (h : JOk g d) : ∀ i : Nat, i ≤ 64 → Ev (fun k => spec_Joined.l0 k g d ((joinv g d).take i) (i : Int)) (joinv g d) := by
 have hj := joinv_len h
 obtain ⟨⟨hg, bg⟩, hd, bd⟩ := h
 refine down 64 ?_ ?_
 ·refine Ev.step (f := fun _ => some (joinv g d)) (fun k => ?_) (Ev.now _)
  simp only [spec_Joined.l0]
  rw [if_neg (by omega), List.take_of_length_le (by omega)]
 ·intro i hi hh
  have r1 := allB_iff.1 bg _ (List.getElem_mem (show i < g.length by omega))
  have r2 := allB_iff.1 bd _ (List.getElem_mem (show i < d.length by omega))
  have e := joinv_get g d i (by omega) (by omega) (by omega)
  have hb := brought_ev (g[i] + d[i]) 0 255
  rw [← e] at hb
  refine Ev.step (f := fun k => (spec_Brought.f k (g[i] + d[i]) 0 255).bind fun t => (if ((joinv g d).take i).length < 17592186044416 then (spec_Joined.l0 k g d ((joinv g d).take i ++ [t]) ((i + 1 : Nat) : Int)) else (none))) (fun k => ?_) (Ev.bind hb ?_)
  ·simp only [spec_Joined.l0]
   rw [if_pos (by omega), if_pos (by omega), if_pos (by omega), if_pos (by omega), rd_nat g i (by omega), rd_nat d i (by omega), wrap_id (x := g[i] + d[i]) (by omega) (by omega), wrap_id (x := (i : Int) + 1) (by omega) (by omega), cast1]
  ·refine Ev.congr (fun k => ?_) hh
   rw [if_pos (by simp; omega), ← List.take_succ_eq_append_getElem (by omega)]
theorem sjoined_ev (g d : List Int) (hg : g.length ≤ 17592186043904) (hd : d.length ≤ 17592186043904) : Ev (fun k => spec_Joined.f k g d) (if JOk g d then joinv g d else []) := by
 unfold spec_Joined.f
 simp only [Option.bind_some]
 have hbad : Ev (fun k => spec_Joined.j0 k g d [] true) [] := Ev.step (f := fun _ => some []) (fun k => by simp only [spec_Joined.j0]; rfl) (Ev.now _)
 refine Ev.bind (sdots_ev g hg) ?_
 by_cases c1 : g.length = 64 ∧ allB 0 255 g = true
 ·rw [decide_eq_true c1.1, c1.2]
  simp only [Bool.and_self, if_true]
  refine Ev.bind (all_ev d 64 10000000 hd (by omega) (by omega)) ?_
  rw [len_decj d 64 64 rfl]
  by_cases c2 : d.length = 64 ∧ allB (-10000000) 10000000 d = true
  ·rw [if_pos ⟨c1, c2⟩, decide_eq_true c2.1, c2.2]
   simp only [Bool.and_self, Bool.not_true]
   exact Ev.step (fun k => by simp only [spec_Joined.j0, Bool.false_eq_true, if_false]; rfl) (sjoin_loop g d ⟨c1, c2⟩ 0 (by omega))
  ·rw [if_neg (fun h => c2 h.2), and_false' rfl c2]
   simp only [Bool.not_false]; exact hbad
 ·rw [if_neg (fun h => c1 h.1), and_false' rfl c1]
  simp only [Bool.false_eq_true, if_false]; exact hbad
theorem jout_len (g d : List Int) : (if JOk g d then joinv g d else []).length ≤ 64 := by
 by_cases c : JOk g d
 ·rw [if_pos c, joinv_len c]; omega
 ·rw [if_neg c]; simp
theorem list16 (x : List Int) (h : x.length = 16) : ∃ a0 a1 a2 a3 a4 a5 a6 a7 a8 a9 a10 a11 a12 a13 a14 a15, x = [a0, a1, a2, a3, a4, a5, a6, a7, a8, a9, a10, a11, a12, a13, a14, a15] := by
 match x, h with
 | [a0, a1, a2, a3, a4, a5, a6, a7, a8, a9, a10, a11, a12, a13, a14, a15], _ => exact ⟨a0, a1, a2, a3, a4, a5, a6, a7, a8, a9, a10, a11, a12, a13, a14, a15, rfl⟩
theorem len_dec4 (l : List Int) (n : Nat) (m : Int) (h : m = (n : Int)) : decide ((l.length : Int) = m) = decide (l.length = n) := by rw [decide_eq_decide]; omega
theorem and_false4 {b : Bool} {p : Prop} [Decidable p] (h : ¬ (p ∧ b = true)) : (decide p && b) = false := by
 rw [Bool.eq_false_iff]; intro h'; rw [Bool.and_eq_true, decide_eq_true_eq] at h'; exact h h'
theorem turnedL_len (T x) : (turnedL T x).length = x.length := by simp [turnedL, colsT, rowsT, colT, rowT]
theorem Ev.from {α : Type} {f : Nat → Option α} {v : α} (n : Nat) (h : ∀ k, f (k + n) = some v) : Ev f v := by
 refine ⟨n, fun k hk => ?_⟩
 have e := h (k - n)
 rwa [Nat.sub_add_cancel hk] at e
def down64 (x : Int) : Int := (x + 32) / 64
def settledL (l : List Int) : List Int := l.map down64
theorem settledL_len (l : List Int) : (settledL l).length = l.length := by simp [settledL]
theorem down_eq {x : Int} (h0 : -1000000000000 ≤ x) (h1 : x ≤ 1000000000000) :
  (if (64 : Int) = 0 then (none : Option Int) else (if (Int.tmod (wrap64 (x + 32)) 64) < 0 then (some (wrap64 ((wrap64 (Int.tdiv (wrap64 (x + 32)) 64)) - 1))) else (some (wrap64 (Int.tdiv (wrap64 (x + 32)) 64))))) = some (down64 x) := by
 rw [if_neg (by omega), wrap_id (x := x + 32) (by omega) (by omega)]
 unfold down64
 generalize hy : x + 32 = y
 have h2 : -1000000000100 ≤ y := by omega
 have h3 : y ≤ 1000000000100 := by omega
 clear hy h0 h1
 have hd : Int.tdiv y 64 * 64 + Int.tmod y 64 = y := Int.tdiv_mul_add_tmod y 64
 by_cases c : Int.tmod y 64 < 0
 ·have hl : -64 < Int.tmod y 64 := by
   have := Int.lt_tmod_of_pos y (b := 64) (by omega)
   omega
  rw [if_pos c, wrap_id (x := Int.tdiv y 64) (by omega) (by omega), wrap_id (by omega) (by omega)]
  congr 1
  omega
 ·have hl : Int.tmod y 64 < 64 := Int.tmod_lt_of_pos y (by omega)
  rw [if_neg c, wrap_id (x := Int.tdiv y 64) (by omega) (by omega)]
  congr 1
  omega
/-- A row that is settled up to i. -/
def setTo (l : List Int) (i : Nat) : List Int := (settledL l).take i ++ l.drop i
theorem setTo_len (l : List Int) (i : Nat) (h : i ≤ l.length) : (setTo l i).length = l.length := by
 unfold setTo
 rw [List.length_append, List.length_take, List.length_drop, settledL_len]
 omega
theorem setTo_rd (l : List Int) (i : Nat) (h : i < l.length) : rd (setTo l i) (i : Int) = l[i] := by
 unfold rd setTo
 rw [Int.toNat_natCast, List.getD_eq_getElem?_getD, List.getElem?_append_right (by rw [List.length_take, settledL_len]; omega), List.length_take, settledL_len, Nat.min_eq_left (by omega), Nat.sub_self, List.getElem?_drop, Nat.add_zero, List.getElem?_eq_getElem h]
 rfl
theorem setTo_set (l : List Int) (i : Nat) (h : i < l.length) : (setTo l i).set i (down64 l[i]) = setTo l (i + 1) := by
 have e : down64 l[i] = (settledL l)[i]'(by rw [settledL_len]; exact h) := by simp [settledL]
 rw [e]
 exact mix_set (settledL l) l i (by rw [settledL_len]; exact h) h
theorem setTo_end (l : List Int) : setTo l l.length = settledL l := by
 unfold setTo
 rw [List.drop_length, List.append_nil, List.take_of_length_le (by rw [settledL_len]; omega)]
theorem settled_ev (l : List Int) (hl : l.length ≤ 17592186043904) (hb : ∀ x ∈ l, -1000000000000 ≤ x ∧ x ≤ 1000000000000) : Ev (fun k => impl_settled.f k l) (settledL l) := by
 have H : ∀ i, i ≤ l.length → Ev (fun k => impl_settled.l0 k (setTo l i) (l.length : Int) (i : Int)) (settledL l) := by
  refine down l.length ?_ ?_
  ·refine Ev.step (f := fun _ => some (settledL l)) (fun k => ?_) (Ev.now _)
   simp only [impl_settled.l0]
   rw [if_neg (by omega), setTo_end]
  ·intro i hi h
   have hx := hb l[i] (List.getElem_mem _)
   refine Ev.step (fun k => ?_) h
   simp only [impl_settled.l0]
   rw [if_pos (by omega), if_pos (by omega), if_pos (by rw [setTo_len l i (by omega)]; omega), setTo_rd l i hi]
   unfold impl_floor.f
   rw [down_eq hx.1 hx.2, Option.bind_some, Int.toNat_natCast, setTo_set l i hi, wrap_id (by omega) (by omega), cast1]
 have h0 := H 0 (by omega)
 unfold impl_settled.f
 exact h0
def FbOk (x : List Int) : Prop := x.length = 16 ∧ allB (-10000000) 10000000 x = true
instance (x : List Int) : Decidable (FbOk x) := by unfold FbOk; infer_instance
def fbv (x : List Int) : List Int := if FbOk x then settledL (turnedL b4 x) else []
theorem fl2_small {x M : Int} (hM : M ≤ 1000000000000) (h0 : -M ≤ x) (h1 : x ≤ M) : -M - 1 ≤ fl2 x ∧ fl2 x ≤ M := by
 unfold fl2
 have hd : Int.tdiv x 2 * 2 + Int.tmod x 2 = x := Int.tdiv_mul_add_tmod x 2
 have hl : -2 < Int.tmod x 2 := by have := Int.lt_tmod_of_pos x (b := 2) (by omega); omega
 have hr : Int.tmod x 2 < 2 := Int.tmod_lt_of_pos x (by omega)
 generalize Int.tmod x 2 = m at hd hl hr
 generalize Int.tdiv x 2 = q at hd
 split
 ·rw [wrap_id (x := q) (by omega) (by omega), wrap_id (by omega) (by omega)]; omega
 ·rw [wrap_id (x := q) (by omega) (by omega)]; omega
theorem b4_small {a b c d M : Int} (hM : M ≤ 200000000000) (ha : -M ≤ a ∧ a ≤ M) (hb : -M ≤ b ∧ b ≤ M) (hc : -M ≤ c ∧ c ≤ M) (hd : -M ≤ d ∧ d ≤ M) :
  (-(4 * M + 4) ≤ (b4 a b c d).1 ∧ (b4 a b c d).1 ≤ 4 * M + 4) ∧ (-(4 * M + 4) ≤ (b4 a b c d).2.1 ∧ (b4 a b c d).2.1 ≤ 4 * M + 4) ∧ (-(4 * M + 4) ≤ (b4 a b c d).2.2.1 ∧ (b4 a b c d).2.2.1 ≤ 4 * M + 4) ∧ (-(4 * M + 4) ≤ (b4 a b c d).2.2.2 ∧ (b4 a b c d).2.2.2 ≤ 4 * M + 4) := by
 have h1 := fl2_small (x := b) (M := M) (by omega) hb.1 hb.2
 have h2 := fl2_small (x := d) (M := M) (by omega) hd.1 hd.2
 unfold b4
 generalize fl2 b = p at h1
 generalize fl2 d = q at h2
 dsimp only
 rw [wrap_id (x := a + c) (by omega) (by omega), wrap_id (x := a - c) (by omega) (by omega), wrap_id (x := b + q) (by omega) (by omega), wrap_id (x := p - d) (by omega) (by omega)]
 rw [wrap_id (x := a + c + (b + q)) (by omega) (by omega), wrap_id (x := a - c + (p - d)) (by omega) (by omega), wrap_id (x := a - c - (p - d)) (by omega) (by omega), wrap_id (x := a + c - (b + q)) (by omega) (by omega)]
 omega
def InM (M : Int) (x : List Int) : Prop := ∀ v ∈ x, -M ≤ v ∧ v ≤ M
theorem rd_in {M : Int} {x : List Int} (hM : 0 ≤ M) (h : InM M x) (i : Int) : -M ≤ rd x i ∧ rd x i ≤ M := by
 unfold rd
 rw [List.getD_eq_getElem?_getD]
 cases e : x[i.toNat]? with
 | none => simp; omega
 | some v => exact h v (List.mem_of_getElem? e)
theorem set_in {M : Int} {x : List Int} (h : InM M x) (i : Nat) {v : Int} (hv : -M ≤ v ∧ v ≤ M) : InM M (x.set i v) := by
 intro u hu
 rcases List.mem_or_eq_of_mem_set hu with h1 | h1
 ·exact h u h1
 ·rw [h1]; exact hv
theorem grow_in {M N : Int} {x : List Int} (h : InM M x) (hN : M ≤ N) : InM N x := fun v hv => by have := h v hv; omega
theorem rowT_in {M : Int} {x : List Int} (hM : 0 ≤ M) (hM' : M ≤ 200000000000) (h : InM M x) (r : Nat) : InM (4 * M + 4) (rowT b4 x r) := by
 unfold rowT
 have s := b4_small hM' (rd_in hM h r) (rd_in hM h (r + 1 : Nat)) (rd_in hM h (r + 2 : Nat)) (rd_in hM h (r + 3 : Nat))
 exact set_in (set_in (set_in (set_in (grow_in h (by omega)) _ s.1) _ s.2.1) _ s.2.2.1) _ s.2.2.2
theorem colT_in {M : Int} {x : List Int} (hM : 0 ≤ M) (hM' : M ≤ 200000000000) (h : InM M x) (r : Nat) : InM (4 * M + 4) (colT b4 x r) := by
 unfold colT
 have s := b4_small hM' (rd_in hM h r) (rd_in hM h (r + 4 : Nat)) (rd_in hM h (r + 8 : Nat)) (rd_in hM h (r + 12 : Nat))
 exact set_in (set_in (set_in (set_in (grow_in h (by omega)) _ s.1) _ s.2.1) _ s.2.2.1) _ s.2.2.2
theorem turned_small {x : List Int} (h : FbOk x) : ∀ v ∈ turnedL b4 x, -1000000000000 ≤ v ∧ v ≤ 1000000000000 := by
 have h0 : InM 10000000 x := fun v hv => by have := allB_iff.1 h.2 v hv; omega
 have h1 := rowT_in (by omega) (by omega) h0 (4 * 0)
 have h2 := rowT_in (by omega) (by omega) h1 (4 * 1)
 have h3 := rowT_in (by omega) (by omega) h2 (4 * 2)
 have h4 := rowT_in (by omega) (by omega) h3 (4 * 3)
 have h5 := colT_in (by omega) (by omega) h4 0
 have h6 := colT_in (by omega) (by omega) h5 1
 have h7 := colT_in (by omega) (by omega) h6 2
 have h8 := colT_in (by omega) (by omega) h7 3
 exact grow_in h8 (by omega)
theorem fourback_ev (x : List Int) (hx : x.length ≤ 17592186043904) : Ev (fun k => impl_FourBack.f k x) (fbv x) := by
 unfold impl_FourBack.f fbv
 refine Ev.bind (areIn_ev x 16 (-10000000) 10000000 hx) ?_
 rw [len_dec4 x 16 16 rfl]
 by_cases c : FbOk x
 ·rw [if_pos c, decide_eq_true c.1, c.2]
  simp only [Bool.and_self, if_true]
  simp only [if_pos c.1]
  exact Ev.bind (settled_ev _ (by rw [turnedL_len, c.1]; omega) (turned_small c)) (Ev.now _)
 ·rw [if_neg c, and_false4 c]
  simp only [Bool.false_eq_true, if_false]; exact Ev.now _
def backsB : Nat → List Int → List Int → Int → Option (List Int)
 | 0, _, _, _ => none
 | k + 1, x0, x3, x4 => if x4 < 4 then (if 0 ≤ (wrap64 (4 * x4)) then (if (wrap64 (4 * x4)) < (x0.length : Int) then (if 0 ≤ (wrap64 ((wrap64 (4 * x4)) + 1)) then (if (wrap64 ((wrap64 (4 * x4)) + 1)) < (x0.length : Int) then (if 0 ≤ (wrap64 ((wrap64 (4 * x4)) + 2)) then (if (wrap64 ((wrap64 (4 * x4)) + 2)) < (x0.length : Int) then (if 0 ≤ (wrap64 ((wrap64 (4 * x4)) + 3)) then (if (wrap64 ((wrap64 (4 * x4)) + 3)) < (x0.length : Int) then ((some (fl2 (rd x0 (wrap64 ((wrap64 (4 * x4)) + 1))))).bind fun t135 => ((some (fl2 (rd x0 (wrap64 ((wrap64 (4 * x4)) + 3))))).bind fun t136 => ((some (([wrap64 ((wrap64 ((rd x0 (wrap64 (4 * x4))) + (rd x0 (wrap64 ((wrap64 (4 * x4)) + 2))))) + (wrap64 ((rd x0 (wrap64 ((wrap64 (4 * x4)) + 1))) + t136))), wrap64 ((wrap64 ((rd x0 (wrap64 (4 * x4))) - (rd x0 (wrap64 ((wrap64 (4 * x4)) + 2))))) + (wrap64 (t135 - (rd x0 (wrap64 ((wrap64 (4 * x4)) + 3)))))), wrap64 ((wrap64 ((rd x0 (wrap64 (4 * x4))) - (rd x0 (wrap64 ((wrap64 (4 * x4)) + 2))))) - (wrap64 (t135 - (rd x0 (wrap64 ((wrap64 (4 * x4)) + 3)))))), wrap64 ((wrap64 ((rd x0 (wrap64 (4 * x4))) + (rd x0 (wrap64 ((wrap64 (4 * x4)) + 2))))) - (wrap64 ((rd x0 (wrap64 ((wrap64 (4 * x4)) + 1))) + t136)))] : List Int) : List Int)).bind fun y137 => (if x3.length + y137.length < 17592186044416 then (backsB k x0 (x3 ++ y137) (wrap64 (x4 + 1))) else (none))))) else (none)) else (none)) else (none)) else (none)) else (none)) else (none)) else (none)) else (none)) else (some x3)
theorem sdown2 (x : Int) : spec_l09Down.f x 2 = some (fl2 x) := by
 unfold spec_l09Down.f fl2
 rw [if_neg (by decide)]
 split <;> rfl
theorem backs_eq : ∀ k x0 x3 x4, spec_l09Backs.l0 k x0 x3 x4 = backsB k x0 x3 x4
 | 0, _, _, _ => rfl
 | k + 1, x0, x3, x4 => by simp only [spec_l09Backs.l0, backsB, sdown2, backs_eq k]
theorem backsf_eq (k : Nat) (x : List Int) : spec_l09Backs.f k x = backsB k x [] 0 := backs_eq k x [] 0
def sfbF (k : Nat) (x : List Int) : Option (List Int) := (backsB k x [] 0).bind fun t147 => ((spec_l09Flip.f k t147).bind fun t150 => ((backsB k t150 [] 0).bind fun t153 => ((spec_l09Flip.f k t153).bind fun t156 => (some t156))))
theorem sfourback16 (a0 a1 a2 a3 a4 a5 a6 a7 a8 a9 a10 a11 a12 a13 a14 a15 : Int) (k : Nat) : sfbF (k + 17) [a0, a1, a2, a3, a4, a5, a6, a7, a8, a9, a10, a11, a12, a13, a14, a15] = some (turnedL b4 [a0, a1, a2, a3, a4, a5, a6, a7, a8, a9, a10, a11, a12, a13, a14, a15]) := by kernel_rfl
theorem sfb_loop (l : List Int) (hl : l.length = 16) (hb : ∀ x ∈ l, -1000000000000 ≤ x ∧ x ≤ 1000000000000) : Ev (fun k => spec_FourBack.l0 k l 0) (settledL l) := by
 have H : ∀ i, i ≤ l.length → Ev (fun k => spec_FourBack.l0 k (setTo l i) (i : Int)) (settledL l) := by
  refine down l.length ?_ ?_
  ·refine Ev.step (f := fun _ => some (settledL l)) (fun k => ?_) (Ev.now _)
   simp only [spec_FourBack.l0]
   rw [if_neg (by omega), setTo_end]
  ·intro i hi h
   have hx := hb l[i] (List.getElem_mem _)
   refine Ev.step (fun k => ?_) h
   simp only [spec_FourBack.l0]
   rw [if_pos (by omega), if_pos (by omega), if_pos (by rw [setTo_len l i (by omega)]; omega), setTo_rd l i hi]
   unfold spec_l09Down.f
   rw [down_eq hx.1 hx.2, Option.bind_some, Int.toNat_natCast, setTo_set l i hi, wrap_id (by omega) (by omega), cast1]
 exact H 0 (by omega)
theorem sfourback_ev (x : List Int) (hx : x.length ≤ 17592186043904) : Ev (fun k => spec_FourBack.f k x) (fbv x) := by
 unfold spec_FourBack.f fbv
 refine Ev.bind (all_ev x 16 10000000 hx (by omega) (by omega)) ?_
 rw [len_dec4 x 16 16 rfl]
 by_cases c : FbOk x
 ·rw [if_pos c, decide_eq_true c.1, c.2]
  simp only [Bool.and_self, if_true, backsf_eq]
  have hs := sfb_loop _ (by rw [turnedL_len, c.1]) (turned_small c)
  obtain ⟨a0, a1, a2, a3, a4, a5, a6, a7, a8, a9, a10, a11, a12, a13, a14, a15, rfl⟩ := list16 x c.1
  have h16 : Ev (fun k => sfbF k [a0, a1, a2, a3, a4, a5, a6, a7, a8, a9, a10, a11, a12, a13, a14, a15]) (turnedL b4 [a0, a1, a2, a3, a4, a5, a6, a7, a8, a9, a10, a11, a12, a13, a14, a15]) := Ev.from 17 (fun k => sfourback16 a0 a1 a2 a3 a4 a5 a6 a7 a8 a9 a10 a11 a12 a13 a14 a15 k)
  generalize turnedL b4 [a0, a1, a2, a3, a4, a5, a6, a7, a8, a9, a10, a11, a12, a13, a14, a15] = TB at h16 hs
  generalize [a0, a1, a2, a3, a4, a5, a6, a7, a8, a9, a10, a11, a12, a13, a14, a15] = x0 at h16
  refine Ev.congr (f := fun k => (sfbF k x0).bind fun t => spec_FourBack.l0 k t 0) (fun k => ?_) (Ev.bind h16 hs)
  unfold sfbF
  simp only [Option.bind_assoc, Option.bind_some]
 ·rw [if_neg c, and_false4 c]
  simp only [Bool.false_eq_true, if_false]; exact Ev.now _
def ord4 : List Int := [0, 1, 4, 8, 5, 2, 3, 6, 9, 12, 13, 10, 7, 11, 14, 15]
def ord8 : List Int := [0, 1, 8, 16, 9, 2, 3, 10, 17, 24, 32, 25, 18, 11, 4, 5, 12, 19, 26, 33, 40, 48, 41, 34, 27, 20, 13, 6, 7, 14, 21, 28, 35, 42, 49, 56, 57, 50, 43, 36, 29, 22, 15, 23, 30, 37, 44, 51, 58, 59, 52, 45, 38, 31, 39, 46, 53, 60, 61, 54, 47, 55, 62, 63]
def ordOf (side : Int) : List Int := if side = 4 then ord4 else ord8
/-- A side and its number of places. -/
def SideN (side : Int) (n : Nat) : Prop := side = 4 ∧ n = 16 ∨ side = 8 ∧ n = 64
theorem ord_len {side : Int} {n : Nat} (h : SideN side n) : (ordOf side).length = n := by rcases h with ⟨rfl, rfl⟩ | ⟨rfl, rfl⟩ <;> rfl
theorem ord_in {side : Int} {n : Nat} (h : SideN side n) : ∀ x ∈ ordOf side, 0 ≤ x ∧ x < (n : Int) := by
 rcases h with ⟨rfl, rfl⟩ | ⟨rfl, rfl⟩
 ·decide +kernel
 ·decide +kernel
theorem order4 : impl_scanOrder.f 100 4 = some ord4 := by decide +kernel
theorem order8 : impl_scanOrder.f 300 8 = some ord8 := by decide +kernel
theorem order_ev {side : Int} {n : Nat} (h : SideN side n) : Ev (fun k => impl_scanOrder.f k side) (ordOf side) := by
 rcases h with ⟨rfl, rfl⟩ | ⟨rfl, rfl⟩
 ·exact Ev.of (fun k => impl_scanOrder.mono _ _) order4
 ·exact Ev.of (fun k => impl_scanOrder.mono _ _) order8
theorem sat4 : ∀ j : Fin 16, spec_ScanAt.f 200 4 (j.val : Int) = some (rd ord4 (j.val : Int)) := by decide +kernel
theorem sat8 : ∀ j : Fin 64, spec_ScanAt.f 400 8 (j.val : Int) = some (rd ord8 (j.val : Int)) := by decide +kernel
theorem sat_ev {side : Int} {n : Nat} (h : SideN side n) (i : Nat) (hi : i < n) : Ev (fun k => spec_ScanAt.f k side (i : Int)) (rd (ordOf side) (i : Int)) := by
 rcases h with ⟨rfl, rfl⟩ | ⟨rfl, rfl⟩
 ·exact Ev.of (fun k => spec_ScanAt.mono _ _ _) (sat4 ⟨i, hi⟩)
 ·exact Ev.of (fun k => spec_ScanAt.mono _ _ _) (sat8 ⟨i, hi⟩)
def ScOk (side : Int) (l : List Int) : Prop := (side = 4 ∧ l.length = 16) ∨ (side = 8 ∧ l.length = 64)
instance (side : Int) (l : List Int) : Decidable (ScOk side l) := by unfold ScOk; infer_instance
theorem scok_side {side : Int} {l : List Int} (h : ScOk side l) : SideN side l.length := by rcases h with ⟨rfl, e⟩ | ⟨rfl, e⟩ <;> rw [e] <;> simp [SideN]
/-- The list that comes of the order of the scan, from place i on. -/
def unsc (side : Int) (l : List Int) : Nat → Nat → List Int → List Int
 | 0, _, out => out
 | d + 1, i, out => unsc side l d (i + 1) (out.set (rd (ordOf side) (i : Int)).toNat (rd l (i : Int)))
theorem unsc_len (side : Int) (l : List Int) (d : Nat) : ∀ i out, (unsc side l d i out).length = out.length := by
 induction d with
 | zero => intro i out; rfl
 | succ d ih => intro i out; simp only [unsc]; rw [ih]; simp
def unscv (side : Int) (l : List Int) : List Int := unsc side l l.length 0 (List.replicate l.length 0)
theorem unscv_len (side : Int) (l : List Int) : (unscv side l).length = l.length := by unfold unscv; rw [unsc_len]; simp
theorem unscanned_loop {side : Int} {l : List Int} (h : SideN side l.length) : ∀ i, i ≤ l.length → ∀ out : List Int, out.length = l.length → Ev (fun k => impl_Unscanned.l0 k l out (ordOf side) ((ordOf side).length : Int) (i : Int)) (unsc side l (l.length - i) i out, true) := by
 have hn := ord_len h
 have hlen : l.length ≤ 64 := by rcases h with ⟨_, e⟩ | ⟨_, e⟩ <;> omega
 refine down l.length ?_ ?_
 ·intro out _
  rw [Nat.sub_self]
  refine Ev.step (f := fun _ => some (out, true)) (fun k => ?_) (Ev.now _)
  simp only [impl_Unscanned.l0]
  rw [if_neg (by omega)]
 ·intro i hi hh out ho
  have e1 : l.length - i = (l.length - (i + 1)) + 1 := by omega
  rw [e1]
  have hb : 0 ≤ rd (ordOf side) (i : Int) ∧ rd (ordOf side) (i : Int) < (l.length : Int) := by
   rw [rd_nat _ i (by omega)]; exact ord_in h _ (List.getElem_mem (by omega))
  refine Ev.step (fun k => ?_) (hh (out.set (rd (ordOf side) (i : Int)).toNat (rd l (i : Int))) (by simpa using ho))
  simp only [impl_Unscanned.l0]
  rw [if_pos (by omega), if_pos (by omega), if_pos (by omega), if_pos (by omega), if_pos hb.1, if_pos (by omega), wrap_id (by omega) (by omega), cast1]
theorem unscanned_ev (side : Int) (l : List Int) : Ev (fun k => impl_Unscanned.f k side l) (if ScOk side l then (unscv side l, true) else ([], false)) := by
 unfold impl_Unscanned.f
 have hbad : Ev (fun k => impl_Unscanned.j0 k side l true) ([], false) := Ev.step (f := fun _ => some ([], false)) (fun k => by simp only [impl_Unscanned.j0]; rfl) (Ev.now _)
 have hok : ScOk side l → Ev (fun k => impl_Unscanned.j0 k side l false) (unscv side l, true) := fun h => by
  have hlen : l.length ≤ 64 := by rcases h with ⟨_, e⟩ | ⟨_, e⟩ <;> omega
  refine Ev.step (fun k => by simp only [impl_Unscanned.j0, Bool.false_eq_true, if_false]; rw [if_pos (by omega), if_pos (by simp; omega), Int.toNat_natCast]) (Ev.bind (order_ev (scok_side h)) ?_)
  exact unscanned_loop (scok_side h) 0 (by omega) _ (by simp)
 by_cases c4 : side = 4
 ·subst c4
  rw [wrap_id (x := 4 * 4) (by omega) (by omega)]
  by_cases c : l.length = 16
  ·rw [if_pos (.inl ⟨rfl, c⟩)]
   simp only [if_true, c, show (((16 : Nat) : Int) != 4 * 4) = false from by decide]
   exact hok (.inl ⟨rfl, c⟩)
  ·rw [if_neg (by rintro (⟨_, h⟩ | ⟨h, _⟩); exact c h; exact absurd h (by decide))]
   simp only [if_true, show ((l.length : Int) != 4 * 4) = true from by rw [bne_iff_ne]; omega]
   exact hbad
 ·by_cases c8 : side = 8
  ·subst c8
   simp only [if_neg c4]
   rw [wrap_id (x := 8 * 8) (by omega) (by omega)]
   by_cases c : l.length = 64
   ·rw [if_pos (.inr ⟨rfl, c⟩)]
    simp only [if_true, c, show (((64 : Nat) : Int) != 8 * 8) = false from by decide]
    exact hok (.inr ⟨rfl, c⟩)
   ·rw [if_neg (by rintro (⟨h, _⟩ | ⟨_, h⟩); exact absurd h (by decide); exact c h)]
    simp only [if_true, show ((l.length : Int) != 8 * 8) = true from by rw [bne_iff_ne]; omega]
    exact hbad
  ·rw [if_neg (by rintro (⟨h, _⟩ | ⟨h, _⟩); exact c4 h; exact c8 h)]
   simp only [if_neg c4, if_neg c8]
   exact hbad
theorem sunscanned_loop {side : Int} {l : List Int} (h : SideN side l.length) : ∀ i, i ≤ l.length → ∀ out : List Int, out.length = l.length → Ev (fun k => spec_Unscanned.l0 k side l out (i : Int)) (unsc side l (l.length - i) i out, true) := by
 have hn := ord_len h
 have hlen : l.length ≤ 64 := by rcases h with ⟨_, e⟩ | ⟨_, e⟩ <;> omega
 have hsq : wrap64 (side * side) = (l.length : Int) := by rcases h with ⟨rfl, e⟩ | ⟨rfl, e⟩ <;> rw [e] <;> decide +kernel
 refine down l.length ?_ ?_
 ·intro out _
  rw [Nat.sub_self]
  refine Ev.step (f := fun _ => some (out, true)) (fun k => ?_) (Ev.now _)
  simp only [spec_Unscanned.l0]
  rw [hsq, if_neg (by omega)]
 ·intro i hi hh out ho
  have e1 : l.length - i = (l.length - (i + 1)) + 1 := by omega
  rw [e1]
  have hb : 0 ≤ rd (ordOf side) (i : Int) ∧ rd (ordOf side) (i : Int) < (l.length : Int) := by
   rw [rd_nat _ i (by omega)]; exact ord_in h _ (List.getElem_mem (by omega))
  refine Ev.step (fun k => by simp only [spec_Unscanned.l0]; rw [hsq, if_pos (by omega)]) (Ev.bind (sat_ev h i hi) ?_)
  refine Ev.congr (fun k => ?_) (hh (out.set (rd (ordOf side) (i : Int)).toNat (rd l (i : Int))) (by simpa using ho))
  rw [if_pos (by omega), if_pos (by omega), if_pos hb.1, if_pos (by omega), wrap_id (by omega) (by omega), cast1]
theorem sunscanned_ev (side : Int) (l : List Int) : Ev (fun k => spec_Unscanned.f k side l) (if ScOk side l then (unscv side l, true) else ([], false)) := by
 unfold spec_Unscanned.f
 have hbad : Ev (fun k => spec_Unscanned.j0 k side l true) ([], false) := Ev.step (f := fun _ => some ([], false)) (fun k => by simp only [spec_Unscanned.j0]; rfl) (Ev.now _)
 have hok : ScOk side l → Ev (fun k => spec_Unscanned.j0 k side l false) (unscv side l, true) := fun h => by
  have hlen : l.length ≤ 64 := by rcases h with ⟨_, e⟩ | ⟨_, e⟩ <;> omega
  refine Ev.step (fun k => by simp only [spec_Unscanned.j0, Bool.false_eq_true, if_false]; rw [if_pos (by omega), if_pos (by simp; omega), Int.toNat_natCast]) ?_
  exact sunscanned_loop (scok_side h) 0 (by omega) _ (by simp)
 by_cases c4 : side = 4
 ·subst c4
  rw [wrap_id (x := 4 * 4) (by omega) (by omega)]
  by_cases c : l.length = 16
  ·rw [if_pos (.inl ⟨rfl, c⟩)]
   simp only [if_true, c, show (((16 : Nat) : Int) != 4 * 4) = false from by decide]
   exact hok (.inl ⟨rfl, c⟩)
  ·rw [if_neg (by rintro (⟨_, h⟩ | ⟨h, _⟩); exact c h; exact absurd h (by decide))]
   simp only [if_true, show ((l.length : Int) != 4 * 4) = true from by rw [bne_iff_ne]; omega]
   exact hbad
 ·by_cases c8 : side = 8
  ·subst c8
   simp only [if_neg c4]
   rw [wrap_id (x := 8 * 8) (by omega) (by omega)]
   by_cases c : l.length = 64
   ·rw [if_pos (.inr ⟨rfl, c⟩)]
    simp only [if_true, c, show (((64 : Nat) : Int) != 8 * 8) = false from by decide]
    exact hok (.inr ⟨rfl, c⟩)
   ·rw [if_neg (by rintro (⟨h, _⟩ | ⟨_, h⟩); exact absurd h (by decide); exact c h)]
    simp only [if_true, show ((l.length : Int) != 8 * 8) = true from by rw [bne_iff_ne]; omega]
    exact hbad
  ·rw [if_neg (by rintro (⟨h, _⟩ | ⟨h, _⟩); exact c4 h; exact c8 h)]
   simp only [if_neg c4, if_neg c8]
   exact hbad
def atq (k i : Nat) : Nat := 8 * (k / 2 * 4 + i / 4) + k % 2 * 4 + i % 4
def qL (k : Nat) : List Int := (List.range 16).map fun i => (atq k i : Int)
theorem qL_len (k : Nat) : (qL k).length = 16 := by simp [qL]
theorem atq_lt (k i : Nat) (hk : k < 4) (hi : i < 16) : atq k i < 64 := by unfold atq; omega
theorem qL_rd (k i : Nat) (hi : i < 16) : rd (qL k) (i : Int) = (atq k i : Int) := by
 rw [rd_nat _ i (by rw [qL_len]; exact hi)]; simp [qL]
theorem mix_rd (m l : List Int) (i : Nat) (hi : i < l.length) (h : m.length = l.length) : rd (m.take i ++ l.drop i) (i : Int) = l[i] := by
 unfold rd
 rw [Int.toNat_natCast, List.getD_eq_getElem?_getD, List.getElem?_append_right (by rw [List.length_take]; omega), List.length_take, Nat.min_eq_left (by omega), Nat.sub_self, List.getElem?_drop, Nat.add_zero, List.getElem?_eq_getElem hi]
 rfl
theorem atq_fin : ∀ (k : Fin 4) (i : Fin 16), (wrap64 ((wrap64 ((wrap64 (8 * (wrap64 ((wrap64 ((wrap64 (Int.tdiv (k.val : Int) 2)) * 4)) + (wrap64 (Int.tdiv (i.val : Int) 4)))))) + (wrap64 ((Int.tmod (k.val : Int) 2) * 4)))) + (Int.tmod (i.val : Int) 4))) = (atq k.val i.val : Int) := by decide +kernel
theorem quarter_fin : ∀ k : Fin 4, impl_quarter.f 60 (k.val : Int) = some (qL k.val) := by decide +kernel
theorem quarter_ev (k : Nat) (hk : k < 4) : Ev (fun n => impl_quarter.f n (k : Int)) (qL k) := Ev.of (fun n => impl_quarter.mono _ _) (quarter_fin ⟨k, hk⟩)
def condB (q : Int) (l e : Bool) : Bool := decide (0 ≤ q ∧ q ≤ 40) && !(l && e)
theorem cond_val (a : Bool) (q : Int) (l e : Bool) : impl_CondOk.f a q l e = some (condB q l e) := by
 unfold impl_CondOk.f condB
 rw [within_eq, Option.bind_some]
 by_cases c : 0 ≤ q ∧ q ≤ 40
 ·simp only [c, and_self, decide_true, if_true, Bool.true_and]
  cases l <;> cases e <;> rfl
 ·simp only [c, decide_false, Bool.false_eq_true, if_false, Bool.false_and]
theorem scond_val (a : Bool) (q : Int) (l e : Bool) : spec_CondOk.f a q l e = some (condB q l e) := by
 unfold spec_CondOk.f condB
 rw [in_eq, Option.bind_some]
 by_cases c : 0 ≤ q ∧ q ≤ 40
 ·simp only [c, and_self, decide_true, if_true, Bool.true_and]
  cases l <;> cases e <;> rfl
 ·simp only [c, decide_false, Bool.false_eq_true, if_false, Bool.false_and]
def sg (u k : Nat) : Int := if (u % 2 * (k % 2) + u / 2 % 2 * (k / 2 % 2) + u / 4 % 2 * (k / 4 % 2)) % 2 = 0 then 1 else -1
theorem sg_one (u k : Nat) : sg u k = 1 ∨ sg u k = -1 := by unfold sg; split <;> simp
/-- The sum of f 0 .. f (n - 1). -/
def sm (f : Nat → Int) : Nat → Int
 | 0 => 0
 | n + 1 => sm f n + f n
theorem sm_bound (f : Nat → Int) (B : Int) (n : Nat) (h : ∀ k, k < n → -B ≤ f k ∧ f k ≤ B) : -((n : Int) * B) ≤ sm f n ∧ sm f n ≤ (n : Int) * B := by
 induction n with
 | zero => simp [sm]
 | succ n ih =>
  have h1 := ih (fun k hk => h k (by omega))
  have h2 := h n (by omega)
  have e : ((n + 1 : Nat) : Int) * B = (n : Int) * B + B := by rw [show ((n + 1 : Nat) : Int) = (n : Int) + 1 from rfl, Int.add_mul, Int.one_mul]
  simp only [sm]; rw [e]; omega
theorem sgmul_bound {B x : Int} (u k : Nat) (h : -B ≤ x ∧ x ≤ B) : -B ≤ sg u k * x ∧ sg u k * x ≤ B := by
 rcases sg_one u k with e | e <;> rw [e] <;> omega
def halfAt (x : List Int) (i : Nat) (k : Nat) : Int := sg (i % 8) k * rd x ((8 * (i / 8) + k : Nat) : Int)
def halfv (x : List Int) : List Int := (List.range 64).map fun i => sm (halfAt x i) 8
def outAt (h : List Int) (i : Nat) (j : Nat) : Int := sg (i / 8) j * rd h ((8 * j + i % 8 : Nat) : Int)
def sums2 (h : List Int) : List Int := (List.range 64).map fun i => sm (outAt h i) 8
def sumsv (x : List Int) : List Int := sums2 (halfv x)
theorem halfv_len (x : List Int) : (halfv x).length = 64 := by simp [halfv]
theorem sums2_len (x : List Int) : (sums2 x).length = 64 := by simp [sums2]
theorem sumsv_len (x : List Int) : (sumsv x).length = 64 := sums2_len _
theorem halfv_get (x : List Int) (i : Nat) (h : i < (halfv x).length) : (halfv x)[i] = sm (halfAt x i) 8 := by simp [halfv]
theorem sums2_get (x : List Int) (i : Nat) (h : i < (sums2 x).length) : (sums2 x)[i] = sm (outAt x i) 8 := by simp [sums2]
theorem allB_at {lo hi : Int} {l : List Int} (h : allB lo hi l = true) (i : Nat) (hi' : i < l.length) : lo ≤ rd l (i : Int) ∧ rd l (i : Int) ≤ hi := by
 rw [rd_nat l i hi']; exact allB_iff.1 h _ (List.getElem_mem _)
theorem half_bound {x : List Int} {M : Int} (hx : x.length = 64) (h : allB (-M) M x = true) (i : Nat) (hi : i < 64) (n : Nat) (hn : n ≤ 8) : -((n : Int) * M) ≤ sm (halfAt x i) n ∧ sm (halfAt x i) n ≤ (n : Int) * M :=
 sm_bound _ M n fun k hk => sgmul_bound _ _ (allB_at h _ (by omega))
theorem halfv_all {x : List Int} {M : Int} (hx : x.length = 64) (h : allB (-M) M x = true) : allB (-(8 * M)) (8 * M) (halfv x) = true := by
 rw [allB_iff]
 intro v hv
 obtain ⟨i, hi, rfl⟩ := List.mem_iff_getElem.1 hv
 rw [halfv_get]
 have := half_bound hx h i (by rw [halfv_len] at hi; exact hi) 8 (by omega)
 omega
theorem out_bound {x : List Int} {M : Int} (hx : x.length = 64) (h : allB (-M) M x = true) (i : Nat) (hi : i < 64) (n : Nat) (hn : n ≤ 8) : -((n : Int) * M) ≤ sm (outAt x i) n ∧ sm (outAt x i) n ≤ (n : Int) * M :=
 sm_bound _ M n fun k hk => sgmul_bound _ _ (allB_at h _ (by omega))
theorem sums2_all {x : List Int} {M : Int} (hx : x.length = 64) (h : allB (-M) M x = true) : allB (-(8 * M)) (8 * M) (sums2 x) = true := by
 rw [allB_iff]
 intro v hv
 obtain ⟨i, hi, rfl⟩ := List.mem_iff_getElem.1 hv
 rw [sums2_get]
 have := out_bound hx h i (by rw [sums2_len] at hi; exact hi) 8 (by omega)
 omega
theorem sumsv_all {x : List Int} {M : Int} (hx : x.length = 64) (h : allB (-M) M x = true) : allB (-(64 * M)) (64 * M) (sumsv x) = true := by
 have h2 := sums2_all (halfv_len x) (halfv_all hx h)
 rw [show 8 * (8 * M) = 64 * M by omega] at h2
 exact h2
/-- The first p of l, then noughts, 64 in all. -/
def fillB (l : List Int) (p : Nat) : List Int := l.take p ++ (List.replicate 64 (0 : Int)).drop p
theorem fill_len (l : List Int) (hl : l.length = 64) (p : Nat) (hp : p ≤ 64) : (fillB l p).length = 64 := by
 unfold fillB; rw [mix_length _ _ _ (by simp [hl]) (by omega)]; exact hl
theorem fill_set0 (l : List Int) (hl : l.length = 64) (p : Nat) (hp : p < 64) : (fillB l p).set p 0 = fillB l p := by
 have e : fillB l p = l.take p ++ (0 :: (List.replicate 64 (0 : Int)).drop (p + 1)) := by
  unfold fillB
  rw [List.drop_eq_getElem_cons (by simp; omega), List.getElem_replicate]
 rw [e, List.set_append_right _ _ (by simp; omega), show p - (l.take p).length = 0 by simp; omega, List.set_cons_zero]
theorem fill_set1 (l : List Int) (hl : l.length = 64) (p : Nat) (hp : p < 64) : (fillB l p).set p (l[p]'(by omega)) = fillB l (p + 1) := mix_set l _ p (by omega) (by simp; omega)
theorem fill_rd (l : List Int) (hl : l.length = 64) (p : Nat) (hp : p < 64) (y : Int) : rd ((fillB l p).set p y) (p : Int) = y := by
 rw [rd_nat _ p (by rw [List.length_set, fill_len l hl p (by omega)]; exact hp), List.getElem_set_self]
theorem fill_end (l : List Int) (hl : l.length = 64) : fillB l 64 = l := by
 have := mix_end l (List.replicate 64 (0 : Int)) (by simp [hl])
 rw [hl] at this; exact this
theorem idx8 (r v : Nat) (hr : r < 8) (hv : v < 8) : wrap64 (wrap64 (8 * (r : Int)) + (v : Int)) = ((8 * r + v : Nat) : Int) := by
 rw [wrap_id (x := 8 * (r : Int)) (by omega) (by omega), wrap_id (by omega) (by omega)]; omega
theorem sign_fin : ∀ i j : Fin 8, impl_SignOf.f 3 (i.val : Int) (j.val : Int) = some (sg i.val j.val) := by decide +kernel
theorem sign_ev (u k : Nat) (hu : u < 8) (hk : k < 8) : Ev (fun n => impl_SignOf.f n (u : Int) (k : Int)) (sg u k) := Ev.of (fun n => impl_SignOf.mono _ _ _) (sign_fin ⟨u, hu⟩ ⟨k, hk⟩)
theorem ssign_fin : ∀ i j : Fin 8, spec_SignOf.f 12 (i.val : Int) (j.val : Int) = some (sg i.val j.val) := by decide +kernel
theorem ssign_ev (u k : Nat) (hu : u < 8) (hk : k < 8) : Ev (fun n => spec_SignOf.f n (u : Int) (k : Int)) (sg u k) := Ev.of (fun n => spec_SignOf.mono _ _ _) (ssign_fin ⟨u, hu⟩ ⟨k, hk⟩)
theorem sums_l2 (x : List Int) (hx : x.length = 64) (M : Int) (hM : M ≤ 1000000000) (hb : allB (-M) M x = true) (r v : Nat) (hr : r < 8) (hv : v < 8) (R : List Int)
  (hh : Ev (fun k => impl_sums.l1 k x (fillB (halfv x) (8 * r + v + 1)) (r : Int) (r : Int) ((v + 1 : Nat) : Int)) R) :
  ∀ m : Nat, m ≤ 8 → Ev (fun k => impl_sums.l2 k x ((fillB (halfv x) (8 * r + v)).set (8 * r + v) (sm (halfAt x (8 * r + v)) m)) (r : Int) (v : Int) (r : Int) (v : Int) (m : Int)) R := by
 have hl := halfv_len x
 refine down 8 ?_ ?_
 ·refine Ev.step (fun k => ?_) hh
  simp only [impl_sums.l2]
  rw [if_neg (by omega), ← halfv_get x (8 * r + v) (by omega), fill_set1 _ hl _ (by omega), wrap_id (by omega) (by omega), cast1]
 ·intro m hm h'
  have b1 := half_bound hx hb (8 * r + v) (by omega) m (by omega)
  have b2 : -M ≤ sg v m * rd x ((8 * r + m : Nat) : Int) ∧ sg v m * rd x ((8 * r + m : Nat) : Int) ≤ M := sgmul_bound _ _ (allB_at hb _ (by omega))
  have b3 : (m : Int) * M ≤ 8 * 1000000000 ∧ 0 ≤ (m : Int) * M := by
   have h0 : 0 ≤ M := by omega
   exact ⟨Int.mul_le_mul (by omega) hM h0 (by omega), Int.mul_nonneg (by omega) h0⟩
  have e : sm (halfAt x (8 * r + v)) (m + 1) = sm (halfAt x (8 * r + v)) m + sg v m * rd x ((8 * r + m : Nat) : Int) := by
   simp only [sm, halfAt]
   rw [show (8 * r + v) % 8 = v by omega, show (8 * r + v) / 8 = r by omega]
  refine Ev.step (f := fun k => (impl_SignOf.f k (v : Int) (m : Int)).bind fun t => impl_sums.l2 k x (((fillB (halfv x) (8 * r + v)).set (8 * r + v) (sm (halfAt x (8 * r + v)) m)).set (8 * r + v) (wrap64 (sm (halfAt x (8 * r + v)) m + wrap64 (t * rd x ((8 * r + m : Nat) : Int))))) (r : Int) (v : Int) (r : Int) (v : Int) ((m + 1 : Nat) : Int)) (fun k => ?_) (Ev.bind (sign_ev v m hv hm) ?_)
  ·simp only [impl_sums.l2]
   rw [if_pos (by omega), idx8 r v hr hv, idx8 r m hr hm, if_pos (by omega), if_pos (by rw [List.length_set, fill_len _ hl _ (by omega)]; omega), fill_rd _ hl _ (by omega), wrap_id (x := (m : Int) + 1) (by omega) (by omega), cast1]
   congr 1
   funext t
   rw [if_pos (by omega), if_pos (by omega), Int.toNat_natCast]
  ·rw [List.set_set, wrap_id (x := sg v m * _) (by omega) (by omega), wrap_id (by omega) (by omega), ← e]
   exact h'
theorem sums_l1 (x : List Int) (hx : x.length = 64) (M : Int) (hM : M ≤ 1000000000) (hb : allB (-M) M x = true) (r : Nat) (hr : r < 8) (R : List Int)
  (hh : Ev (fun k => impl_sums.l0 k x (fillB (halfv x) (8 * (r + 1))) ((r + 1 : Nat) : Int)) R) :
  ∀ v : Nat, v ≤ 8 → Ev (fun k => impl_sums.l1 k x (fillB (halfv x) (8 * r + v)) (r : Int) (r : Int) (v : Int)) R := by
 refine down 8 ?_ ?_
 ·refine Ev.step (fun k => ?_) hh
  simp only [impl_sums.l1]
  rw [if_neg (by omega), wrap_id (by omega) (by omega), cast1]; rfl
 ·intro v hv h'
  refine Ev.step (fun k => ?_) (sums_l2 x hx M hM hb r v hr hv R h' 0 (by omega))
  simp only [impl_sums.l1]
  rw [if_pos (by omega), sm, fill_set0 _ (halfv_len x) _ (by omega)]; rfl
theorem sums_l0 (x : List Int) (hx : x.length = 64) (M : Int) (hM : M ≤ 1000000000) (hb : allB (-M) M x = true) (R : List Int)
  (hh : Ev (fun k => impl_sums.l3 k (halfv x) (List.replicate 64 0) 0) R) :
  ∀ r : Nat, r ≤ 8 → Ev (fun k => impl_sums.l0 k x (fillB (halfv x) (8 * r)) (r : Int)) R := by
 refine down 8 ?_ ?_
 ·refine Ev.step (fun k => ?_) hh
  simp only [impl_sums.l0]
  rw [if_neg (by omega), if_pos (by decide), fill_end _ (halfv_len x)]
 ·intro r hr h'
  refine Ev.step (fun k => ?_) (sums_l1 x hx M hM hb r hr R h' 0 (by omega))
  simp only [impl_sums.l0]
  rw [if_pos (by omega)]; rfl
theorem sums_l5 (x : List Int) (hx : x.length = 64) (M : Int) (hM : M ≤ 1000000000) (hb : allB (-M) M x = true) (r v : Nat) (hr : r < 8) (hv : v < 8) (R : List Int)
  (hh : Ev (fun k => impl_sums.l4 k x (fillB (sums2 x) (8 * r + v + 1)) (r : Int) (r : Int) ((v + 1 : Nat) : Int)) R) :
  ∀ m : Nat, m ≤ 8 → Ev (fun k => impl_sums.l5 k x ((fillB (sums2 x) (8 * r + v)).set (8 * r + v) (sm (outAt x (8 * r + v)) m)) (r : Int) (v : Int) (r : Int) (v : Int) (m : Int)) R := by
 have hl := sums2_len x
 refine down 8 ?_ ?_
 ·refine Ev.step (fun k => ?_) hh
  simp only [impl_sums.l5]
  rw [if_neg (by omega), ← sums2_get x (8 * r + v) (by omega), fill_set1 _ hl _ (by omega), wrap_id (by omega) (by omega), cast1]
 ·intro m hm h'
  have b1 := out_bound hx hb (8 * r + v) (by omega) m (by omega)
  have b2 : -M ≤ sg r m * rd x ((8 * m + v : Nat) : Int) ∧ sg r m * rd x ((8 * m + v : Nat) : Int) ≤ M := sgmul_bound _ _ (allB_at hb _ (by omega))
  have b3 : (m : Int) * M ≤ 8 * 1000000000 ∧ 0 ≤ (m : Int) * M := by
   have h0 : 0 ≤ M := by omega
   exact ⟨Int.mul_le_mul (by omega) hM h0 (by omega), Int.mul_nonneg (by omega) h0⟩
  have e : sm (outAt x (8 * r + v)) (m + 1) = sm (outAt x (8 * r + v)) m + sg r m * rd x ((8 * m + v : Nat) : Int) := by
   simp only [sm, outAt]
   rw [show (8 * r + v) % 8 = v by omega, show (8 * r + v) / 8 = r by omega]
  refine Ev.step (f := fun k => (impl_SignOf.f k (r : Int) (m : Int)).bind fun t => impl_sums.l5 k x (((fillB (sums2 x) (8 * r + v)).set (8 * r + v) (sm (outAt x (8 * r + v)) m)).set (8 * r + v) (wrap64 (sm (outAt x (8 * r + v)) m + wrap64 (t * rd x ((8 * m + v : Nat) : Int))))) (r : Int) (v : Int) (r : Int) (v : Int) ((m + 1 : Nat) : Int)) (fun k => ?_) (Ev.bind (sign_ev r m hr hm) ?_)
  ·simp only [impl_sums.l5]
   rw [if_pos (by omega), idx8 r v hr hv, idx8 m v hm hv, if_pos (by omega), if_pos (by rw [List.length_set, fill_len _ hl _ (by omega)]; omega), fill_rd _ hl _ (by omega), wrap_id (x := (m : Int) + 1) (by omega) (by omega), cast1]
   congr 1
   funext t
   rw [if_pos (by omega), if_pos (by omega), Int.toNat_natCast]
  ·rw [List.set_set, wrap_id (x := sg r m * _) (by omega) (by omega), wrap_id (by omega) (by omega), ← e]
   exact h'
theorem sums_l4 (x : List Int) (hx : x.length = 64) (M : Int) (hM : M ≤ 1000000000) (hb : allB (-M) M x = true) (r : Nat) (hr : r < 8) (R : List Int)
  (hh : Ev (fun k => impl_sums.l3 k x (fillB (sums2 x) (8 * (r + 1))) ((r + 1 : Nat) : Int)) R) :
  ∀ v : Nat, v ≤ 8 → Ev (fun k => impl_sums.l4 k x (fillB (sums2 x) (8 * r + v)) (r : Int) (r : Int) (v : Int)) R := by
 refine down 8 ?_ ?_
 ·refine Ev.step (fun k => ?_) hh
  simp only [impl_sums.l4]
  rw [if_neg (by omega), wrap_id (by omega) (by omega), cast1]; rfl
 ·intro v hv h'
  refine Ev.step (fun k => ?_) (sums_l5 x hx M hM hb r v hr hv R h' 0 (by omega))
  simp only [impl_sums.l4]
  rw [if_pos (by omega), sm, fill_set0 _ (sums2_len x) _ (by omega)]; rfl
theorem sums_l3 (x : List Int) (hx : x.length = 64) (M : Int) (hM : M ≤ 1000000000) (hb : allB (-M) M x = true) :
  ∀ r : Nat, r ≤ 8 → Ev (fun k => impl_sums.l3 k x (fillB (sums2 x) (8 * r)) (r : Int)) (sums2 x) := by
 refine down 8 ?_ ?_
 ·refine Ev.step (f := fun _ => some (sums2 x)) (fun k => ?_) (Ev.now _)
  simp only [impl_sums.l3]
  rw [if_neg (by omega), fill_end _ (sums2_len x)]
 ·intro r hr h'
  refine Ev.step (fun k => ?_) (sums_l4 x hx M hM hb r hr _ h' 0 (by omega))
  simp only [impl_sums.l3]
  rw [if_pos (by omega)]; rfl
theorem fill_zero (l : List Int) : fillB l 0 = List.replicate 64 0 := by simp [fillB]
theorem sums_ev (x : List Int) (hx : x.length = 64) (M : Int) (hM : M ≤ 100000000) (hb : allB (-M) M x = true) : Ev (fun k => impl_sums.f k x) (sumsv x) := by
 unfold impl_sums.f
 have h2 := sums_l3 (halfv x) (halfv_len x) (8 * M) (by omega) (halfv_all hx hb) 0 (by omega)
 rw [Nat.mul_zero, fill_zero] at h2
 have h1 := sums_l0 x hx M (by omega) hb _ h2 0 (by omega)
 rw [Nat.mul_zero, fill_zero] at h1
 refine Ev.congr (fun k => ?_) h1
 rw [if_pos (by decide)]; rfl
theorem srow_ev (x : List Int) (hx : x.length = 64) (M : Int) (hM : M ≤ 1000000000) (hb : allB (-M) M x = true) (r v : Nat) (hr : r < 8) (hv : v < 8) : Ev (fun k => spec_l10Row.f k x (r : Int) (v : Int)) (sm (halfAt x (8 * r + v)) 8) := by
 have H : ∀ m : Nat, m ≤ 8 → Ev (fun k => spec_l10Row.l0 k x (r : Int) (v : Int) (sm (halfAt x (8 * r + v)) m) (m : Int)) (sm (halfAt x (8 * r + v)) 8) := by
  refine down 8 ?_ ?_
  ·refine Ev.step (f := fun _ => some (sm (halfAt x (8 * r + v)) 8)) (fun k => ?_) (Ev.now _)
   simp only [spec_l10Row.l0]
   rw [if_neg (by omega)]
  ·intro m hm h'
   have b1 := half_bound hx hb (8 * r + v) (by omega) m (by omega)
   have b2 : -M ≤ sg v m * rd x ((8 * r + m : Nat) : Int) ∧ sg v m * rd x ((8 * r + m : Nat) : Int) ≤ M := sgmul_bound _ _ (allB_at hb _ (by omega))
   have b3 : (m : Int) * M ≤ 8 * 1000000000 ∧ 0 ≤ (m : Int) * M := by
    have h0 : 0 ≤ M := by omega
    exact ⟨Int.mul_le_mul (by omega) hM h0 (by omega), Int.mul_nonneg (by omega) h0⟩
   have e : sm (halfAt x (8 * r + v)) (m + 1) = sm (halfAt x (8 * r + v)) m + sg v m * rd x ((8 * r + m : Nat) : Int) := by
    simp only [sm, halfAt]
    rw [show (8 * r + v) % 8 = v by omega, show (8 * r + v) / 8 = r by omega]
   refine Ev.step (f := fun k => (spec_SignOf.f k (v : Int) (m : Int)).bind fun t => spec_l10Row.l0 k x (r : Int) (v : Int) (wrap64 (sm (halfAt x (8 * r + v)) m + wrap64 (rd x ((8 * r + m : Nat) : Int) * t))) ((m + 1 : Nat) : Int)) (fun k => ?_) (Ev.bind (ssign_ev v m hv hm) ?_)
   ·simp only [spec_l10Row.l0]
    rw [if_pos (by omega), idx8 r m hr hm, if_pos (by omega), if_pos (by omega), wrap_id (x := (m : Int) + 1) (by omega) (by omega), cast1]
   ·rw [Int.mul_comm (rd x _), wrap_id (x := sg v m * _) (by omega) (by omega), wrap_id (by omega) (by omega), ← e]
    exact h'
 exact H 0 (by omega)
theorem ssums_l1 (x : List Int) (hx : x.length = 64) (M : Int) (hM : M ≤ 1000000000) (hb : allB (-M) M x = true) (r : Nat) (hr : r < 8) (R : List Int)
  (hh : Ev (fun k => spec_l10Sums.l0 k x ((halfv x).take (8 * (r + 1))) ((r + 1 : Nat) : Int)) R) :
  ∀ v : Nat, v ≤ 8 → Ev (fun k => spec_l10Sums.l1 k x ((halfv x).take (8 * r + v)) (r : Int) (v : Int)) R := by
 have hl := halfv_len x
 refine down 8 ?_ ?_
 ·refine Ev.step (fun k => ?_) hh
  simp only [spec_l10Sums.l1]
  rw [if_neg (by omega), wrap_id (by omega) (by omega), cast1]; rfl
 ·intro v hv h'
  have hr' := srow_ev x hx M hM hb r v hr hv
  rw [← halfv_get x (8 * r + v) (by omega)] at hr'
  refine Ev.step (f := fun k => (spec_l10Row.f k x (r : Int) (v : Int)).bind fun t => (if ((halfv x).take (8 * r + v)).length < 17592186044416 then (spec_l10Sums.l1 k x ((halfv x).take (8 * r + v) ++ [t]) (r : Int) ((v + 1 : Nat) : Int)) else (none))) (fun k => ?_) (Ev.bind hr' ?_)
  ·simp only [spec_l10Sums.l1]
   rw [if_pos (by omega), wrap_id (x := (v : Int) + 1) (by omega) (by omega), cast1]
  ·refine Ev.congr (fun k => ?_) h'
   rw [if_pos (by simp; omega), ← List.take_succ_eq_append_getElem (by omega)]; rfl
theorem ssums_l0 (x : List Int) (hx : x.length = 64) (M : Int) (hM : M ≤ 1000000000) (hb : allB (-M) M x = true) (R : List Int)
  (hh : Ev (fun k => spec_l10Sums.l2 k (halfv x) [] 0) R) :
  ∀ r : Nat, r ≤ 8 → Ev (fun k => spec_l10Sums.l0 k x ((halfv x).take (8 * r)) (r : Int)) R := by
 have hl := halfv_len x
 refine down 8 ?_ ?_
 ·refine Ev.step (fun k => ?_) hh
  simp only [spec_l10Sums.l0]
  rw [if_neg (by omega), List.take_of_length_le (by omega)]
 ·intro r hr h'
  refine Ev.step (fun k => ?_) (ssums_l1 x hx M hM hb r hr R h' 0 (by omega))
  simp only [spec_l10Sums.l0]
  rw [if_pos (by omega)]; rfl
theorem ssums_l4 (x : List Int) (hx : x.length = 64) (M : Int) (hM : M ≤ 1000000000) (hb : allB (-M) M x = true) (r v : Nat) (hr : r < 8) (hv : v < 8) (R : List Int)
  (hh : Ev (fun k => spec_l10Sums.l3 k x ((sums2 x).take (8 * r + v + 1)) (r : Int) ((v + 1 : Nat) : Int)) R) :
  ∀ m : Nat, m ≤ 8 → Ev (fun k => spec_l10Sums.l4 k x ((sums2 x).take (8 * r + v)) (r : Int) (v : Int) (sm (outAt x (8 * r + v)) m) (m : Int)) R := by
 have hl := sums2_len x
 refine down 8 ?_ ?_
 ·refine Ev.step (fun k => ?_) hh
  simp only [spec_l10Sums.l4]
  rw [if_neg (by omega), if_pos (by simp; omega), ← sums2_get x (8 * r + v) (by omega), ← List.take_succ_eq_append_getElem (by omega), wrap_id (by omega) (by omega), cast1]
 ·intro m hm h'
  have b1 := out_bound hx hb (8 * r + v) (by omega) m (by omega)
  have b2 : -M ≤ sg r m * rd x ((8 * m + v : Nat) : Int) ∧ sg r m * rd x ((8 * m + v : Nat) : Int) ≤ M := sgmul_bound _ _ (allB_at hb _ (by omega))
  have b3 : (m : Int) * M ≤ 8 * 1000000000 ∧ 0 ≤ (m : Int) * M := by
   have h0 : 0 ≤ M := by omega
   exact ⟨Int.mul_le_mul (by omega) hM h0 (by omega), Int.mul_nonneg (by omega) h0⟩
  have e : sm (outAt x (8 * r + v)) (m + 1) = sm (outAt x (8 * r + v)) m + sg r m * rd x ((8 * m + v : Nat) : Int) := by
   simp only [sm, outAt]
   rw [show (8 * r + v) % 8 = v by omega, show (8 * r + v) / 8 = r by omega]
  refine Ev.step (f := fun k => (spec_SignOf.f k (r : Int) (m : Int)).bind fun t => spec_l10Sums.l4 k x ((sums2 x).take (8 * r + v)) (r : Int) (v : Int) (wrap64 (sm (outAt x (8 * r + v)) m + wrap64 (t * rd x ((8 * m + v : Nat) : Int)))) ((m + 1 : Nat) : Int)) (fun k => ?_) (Ev.bind (ssign_ev r m hr hm) ?_)
  ·simp only [spec_l10Sums.l4]
   rw [if_pos (by omega), idx8 m v hm hv, wrap_id (x := (m : Int) + 1) (by omega) (by omega), cast1]
   congr 1
   funext t
   rw [if_pos (by omega), if_pos (by omega)]
  ·rw [wrap_id (x := sg r m * _) (by omega) (by omega), wrap_id (by omega) (by omega), ← e]
   exact h'
theorem ssums_l3 (x : List Int) (hx : x.length = 64) (M : Int) (hM : M ≤ 1000000000) (hb : allB (-M) M x = true) (r : Nat) (hr : r < 8) (R : List Int)
  (hh : Ev (fun k => spec_l10Sums.l2 k x ((sums2 x).take (8 * (r + 1))) ((r + 1 : Nat) : Int)) R) :
  ∀ v : Nat, v ≤ 8 → Ev (fun k => spec_l10Sums.l3 k x ((sums2 x).take (8 * r + v)) (r : Int) (v : Int)) R := by
 refine down 8 ?_ ?_
 ·refine Ev.step (fun k => ?_) hh
  simp only [spec_l10Sums.l3]
  rw [if_neg (by omega), wrap_id (by omega) (by omega), cast1]; rfl
 ·intro v hv h'
  refine Ev.step (fun k => ?_) (ssums_l4 x hx M hM hb r v hr hv R h' 0 (by omega))
  simp only [spec_l10Sums.l3]
  rw [if_pos (by omega)]; rfl
theorem ssums_l2 (x : List Int) (hx : x.length = 64) (M : Int) (hM : M ≤ 1000000000) (hb : allB (-M) M x = true) :
  ∀ r : Nat, r ≤ 8 → Ev (fun k => spec_l10Sums.l2 k x ((sums2 x).take (8 * r)) (r : Int)) (sums2 x) := by
 refine down 8 ?_ ?_
 ·refine Ev.step (f := fun _ => some (sums2 x)) (fun k => ?_) (Ev.now _)
  simp only [spec_l10Sums.l2]
  rw [if_neg (by omega), List.take_of_length_le (by rw [sums2_len]; omega)]
 ·intro r hr h'
  refine Ev.step (fun k => ?_) (ssums_l3 x hx M hM hb r hr _ h' 0 (by omega))
  simp only [spec_l10Sums.l2]
  rw [if_pos (by omega)]; rfl
theorem ssums_ev (x : List Int) (hx : x.length = 64) (M : Int) (hM : M ≤ 100000000) (hb : allB (-M) M x = true) : Ev (fun k => spec_l10Sums.f k x) (sumsv x) := by
 have h2 := ssums_l2 (halfv x) (halfv_len x) (8 * M) (by omega) (halfv_all hx hb) 0 (by omega)
 have h1 := ssums_l0 x hx M (by omega) hb _ h2 0 (by omega)
 exact h1
theorem len_dece (l : List Int) (n : Nat) (m : Int) (h : m = (n : Int)) : decide ((l.length : Int) = m) = decide (l.length = n) := by rw [decide_eq_decide]; omega
theorem and_falsee {b : Bool} {p : Prop} [Decidable p] (h : ¬ (p ∧ b = true)) : (decide p && b) = false := by
 rw [Bool.eq_false_iff]; intro h'; rw [Bool.and_eq_true, decide_eq_true_eq] at h'; exact h h'
def EbOk (x : List Int) : Prop := x.length = 64 ∧ allB (-10000000) 10000000 x = true
instance (x : List Int) : Decidable (EbOk x) := by unfold EbOk; infer_instance
def ebv (x : List Int) : List Int := if EbOk x then settledL (sumsv x) else []
theorem ebv_len (x : List Int) : (ebv x).length ≤ 64 := by
 unfold ebv
 by_cases c : EbOk x
 ·rw [if_pos c, settledL_len, sumsv_len]; omega
 ·rw [if_neg c]; simp
theorem sumsv_small {x : List Int} (h : EbOk x) : ∀ v ∈ sumsv x, -1000000000000 ≤ v ∧ v ≤ 1000000000000 := by
 have := allB_iff.1 (sumsv_all h.1 h.2)
 intro v hv
 have h1 := this v hv
 omega
theorem eightback_ev (x : List Int) (hx : x.length ≤ 17592186043904) : Ev (fun k => impl_EightBack.f k x) (ebv x) := by
 unfold impl_EightBack.f ebv
 refine Ev.bind (areIn_ev x 64 (-10000000) 10000000 hx) ?_
 rw [len_dece x 64 64 rfl]
 by_cases c : EbOk x
 ·rw [if_pos c, decide_eq_true c.1, c.2]
  simp only [Bool.and_self, if_true]
  exact Ev.bind (sums_ev x c.1 10000000 (by omega) c.2) (Ev.bind (settled_ev _ (by rw [sumsv_len]; omega) (sumsv_small c)) (Ev.now _))
 ·rw [if_neg c, and_falsee c]
  simp only [Bool.false_eq_true, if_false]; exact Ev.now _
theorem seb_loop (l : List Int) (hl : l.length = 64) (hb : ∀ x ∈ l, -1000000000000 ≤ x ∧ x ≤ 1000000000000) : Ev (fun k => spec_EightBack.l0 k l 0) (settledL l) := by
 have H : ∀ i, i ≤ l.length → Ev (fun k => spec_EightBack.l0 k (setTo l i) (i : Int)) (settledL l) := by
  refine down l.length ?_ ?_
  ·refine Ev.step (f := fun _ => some (settledL l)) (fun k => ?_) (Ev.now _)
   simp only [spec_EightBack.l0]
   rw [if_neg (by omega), setTo_end]
  ·intro i hi h
   have hx := hb l[i] (List.getElem_mem _)
   refine Ev.step (fun k => ?_) h
   simp only [spec_EightBack.l0]
   rw [if_pos (by omega), if_pos (by omega), if_pos (by rw [setTo_len l i (by omega)]; omega), setTo_rd l i hi]
   unfold spec_l09Down.f
   rw [down_eq hx.1 hx.2, Option.bind_some, Int.toNat_natCast, setTo_set l i hi, wrap_id (by omega) (by omega), cast1]
 exact H 0 (by omega)
theorem seightback_ev (x : List Int) (hx : x.length ≤ 17592186043904) : Ev (fun k => spec_EightBack.f k x) (ebv x) := by
 unfold spec_EightBack.f ebv
 refine Ev.bind (all_ev x 64 10000000 hx (by omega) (by omega)) ?_
 rw [len_dece x 64 64 rfl]
 by_cases c : EbOk x
 ·rw [if_pos c, decide_eq_true c.1, c.2]
  simp only [Bool.and_self, if_true]
  exact Ev.bind (ssums_ev x c.1 10000000 (by omega) c.2) (seb_loop _ (sumsv_len x) (sumsv_small c))
 ·rw [if_neg c, and_falsee c]
  simp only [Bool.false_eq_true, if_false]; exact Ev.now _
/-- The kind of a place of sixteen. -/
def kindN (a : Int) : Int := if 0 ≤ a ∧ a ≤ 15 then (if a / 4 % 2 = 0 ∧ a % 4 % 2 = 0 then 0 else if a / 4 % 2 = 1 ∧ a % 4 % 2 = 1 then 1 else 2) else -1
theorem kindN_in {a : Int} (h : 0 ≤ a ∧ a ≤ 15) : 0 ≤ kindN a ∧ kindN a < 3 := by
 unfold kindN
 rw [if_pos h]
 by_cases c1 : a / 4 % 2 = 0 ∧ a % 4 % 2 = 0
 ·rw [if_pos c1]; omega
 ·rw [if_neg c1]
  by_cases c2 : a / 4 % 2 = 1 ∧ a % 4 % 2 = 1
  ·rw [if_pos c2]; omega
  ·rw [if_neg c2]; omega
theorem kind_parts {a : Int} (h : 0 ≤ a ∧ a ≤ 15) : Int.tmod (wrap64 (Int.tdiv a 4)) 2 = a / 4 % 2 ∧ Int.tmod (Int.tmod a 4) 2 = a % 4 % 2 := by
 rw [Int.tdiv_eq_ediv_of_nonneg h.1, wrap_id (by omega) (by omega), Int.tmod_eq_emod_of_nonneg (a := a / 4) (by omega), Int.tmod_eq_emod_of_nonneg (a := a) h.1, Int.tmod_eq_emod_of_nonneg (a := a % 4) (by omega)]
 exact ⟨rfl, rfl⟩
theorem kind_ev (a : Int) : Ev (fun k => impl_KindOf.f k a) (kindN a) := by
 unfold impl_KindOf.f kindN
 simp only [within_eq, Option.bind_some]
 by_cases h : 0 ≤ a ∧ a ≤ 15
 ·obtain ⟨e1, e2⟩ := kind_parts h
  simp only [decide_eq_true h, if_true, h, and_self, e1, e2]
  have hr : a / 4 % 2 = 0 ∨ a / 4 % 2 = 1 := by omega
  have hc : a % 4 % 2 = 0 ∨ a % 4 % 2 = 1 := by omega
  generalize a / 4 % 2 = x at hr
  generalize a % 4 % 2 = y at hc
  rcases hr with rfl | rfl <;> rcases hc with rfl | rfl <;> exact Ev.step (fun k => by simp only [impl_KindOf.j0]; rfl) (Ev.now _)
 ·simp only [decide_eq_false h, h, if_false, Bool.false_eq_true]
  exact Ev.now _
theorem skind_ev (a : Int) : Ev (fun k => spec_KindOf.f k a) (kindN a) := by
 unfold spec_KindOf.f kindN
 simp only [in_eq, Option.bind_some]
 by_cases h : 0 ≤ a ∧ a ≤ 15
 ·obtain ⟨e1, e2⟩ := kind_parts h
  simp only [decide_eq_true h, if_true, h, and_self, e1, e2]
  have hr : a / 4 % 2 = 0 ∨ a / 4 % 2 = 1 := by omega
  have hc : a % 4 % 2 = 0 ∨ a % 4 % 2 = 1 := by omega
  generalize a / 4 % 2 = x at hr
  generalize a % 4 % 2 = y at hc
  rcases hr with rfl | rfl <;> rcases hc with rfl | rfl <;> exact Ev.step (fun k => by simp only [spec_KindOf.j0]; rfl) (Ev.now _)
 ·simp only [decide_eq_false h, h, if_false, Bool.false_eq_true]
  exact Ev.now _
theorem pow_le_nat {a b : Nat} (h : a ≤ b) : (2 : Int) ^ a ≤ 2 ^ b := by
 have := Nat.pow_le_pow_right (show 0 < 2 by omega) h
 exact_mod_cast this
theorem pow_ge1 (a : Nat) : (1 : Int) ≤ 2 ^ a := Int.pow_pos (by omega)
theorem shl_val {x e : Int} (hx : 0 ≤ x ∧ x ≤ 30000) (he : 0 ≤ e ∧ e ≤ 25) : shl .i64 x e = x * 2 ^ e.toNat := by
 unfold shl
 have hm : min e.toNat IntKind.i64.bits = e.toNat := Nat.min_eq_left (by show e.toNat ≤ 64; omega)
 rw [hm, i64_w]
 have hp := pow_le_nat (a := e.toNat) (b := 25) (by omega)
 have h1 := pow_ge1 e.toNat
 have hb : x * 2 ^ e.toNat ≤ 30000 * 2 ^ 25 := Int.mul_le_mul hx.2 hp (by omega) (by omega)
 have h0 : 0 ≤ x * 2 ^ e.toNat := Int.mul_nonneg hx.1 (by omega)
 rw [wrap_id (by omega) (by omega)]
def scaleN (q p : Int) : Int := if (0 ≤ q ∧ q ≤ 40) ∧ 0 ≤ p ∧ p ≤ 15 then scaleT (q % 6) (kindN p) * 2 ^ (q / 6).toNat else 0
theorem scaleT_in (q k : Int) : 10 ≤ scaleT q k ∧ scaleT q k ≤ 29 := by
 unfold scaleT
 repeat' split
 all_goals omega
theorem scale_ev (q p : Int) : Ev (fun k => impl_ScaleOf.f k q p) (scaleN q p) := by
 unfold impl_ScaleOf.f scaleN
 simp only [within_eq, Option.bind_some]
 by_cases h1 : 0 ≤ q ∧ q ≤ 40
 ·by_cases h2 : 0 ≤ p ∧ p ≤ 15
  ·simp only [if_true, h1, h2, and_self, decide_true]
   refine Ev.bind (kind_ev p) ?_
   have hs := scaleT_in (q % 6) (kindN p)
   have e : wrap64 (Int.tdiv q 6) = q / 6 := by rw [Int.tdiv_eq_ediv_of_nonneg h1.1, wrap_id (by omega) (by omega)]
   rw [if_pos (kindN_in h2), Int.tmod_eq_emod_of_nonneg h1.1, e, shl_val (by omega) (by omega)]
   exact Ev.now _
  ·simp only [h1, and_self, decide_true, decide_eq_false h2, if_true, h2, and_false, if_false, Bool.false_eq_true]
   exact Ev.now _
 ·simp only [decide_eq_false h1, if_false, h1, false_and, Bool.false_eq_true]
  exact Ev.now _
theorem spick_val (n a b c : Int) : spec_l08Pick.f n a b c = some (if n = 0 then a else if n = 1 then b else c) := by
 unfold spec_l08Pick.f
 by_cases c0 : n = 0
 ·rw [if_pos c0, if_pos c0]
 ·rw [if_neg c0, if_neg c0]
  by_cases c1 : n = 1
  ·rw [if_pos c1, if_pos c1]
  ·rw [if_neg c1, if_neg c1]
theorem sscale_loop (q : Int) (hq : 0 ≤ q ∧ q ≤ 40) (d : Nat) : ∀ i b : Int, 0 ≤ i → i + (d : Int) = q / 6 → 0 ≤ b → b * 2 ^ d ≤ 1000000 → Ev (fun k => spec_ScaleOf.l0 k q b i) (b * 2 ^ d) := by
 have e : wrap64 (Int.tdiv q 6) = q / 6 := by rw [Int.tdiv_eq_ediv_of_nonneg hq.1, wrap_id (by omega) (by omega)]
 induction d with
 | zero =>
  intro i b hz hi h0 h1
  rw [Int.pow_zero, Int.mul_one]
  refine Ev.step (f := fun _ => some b) (fun k => ?_) (Ev.now _)
  simp only [spec_ScaleOf.l0]
  rw [e, if_neg (by omega)]
 | succ d ih =>
  intro i b hz hi h0 h1
  have e2 : b * 2 ^ (d + 1) = (2 * b) * 2 ^ d := by rw [Int.pow_succ, Int.mul_comm (2 ^ d) 2, ← Int.mul_assoc, Int.mul_comm b 2]
  rw [e2] at h1 ⊢
  have hp := pow_ge1 d
  have hb : (2 * b) * 1 ≤ (2 * b) * 2 ^ d := Int.mul_le_mul_of_nonneg_left hp (by omega)
  refine Ev.step (fun k => ?_) (ih (i + 1) (2 * b) (by omega) (by omega) (by omega) h1)
  simp only [spec_ScaleOf.l0]
  rw [e, if_pos (by omega), wrap_id (x := 2 * b) (by omega) (by omega), wrap_id (x := i + 1) (by omega) (by omega)]
theorem sscale_ev (q p : Int) : Ev (fun k => spec_ScaleOf.f k q p) (scaleN q p) := by
 unfold spec_ScaleOf.f scaleN
 refine Ev.bind (skind_ev p) ?_
 simp only [in_eq, Option.bind_some]
 have hbad : ∀ x y : Int, Ev (fun k => spec_ScaleOf.j0 k x y true) 0 := fun x y => Ev.step (f := fun _ => some 0) (fun k => by simp only [spec_ScaleOf.j0]; rfl) (Ev.now _)
 by_cases h1 : 0 ≤ q ∧ q ≤ 40
 ·by_cases h2 : 0 ≤ p ∧ p ≤ 15
  ·have hk := kindN_in h2
   have hd : decide (kindN p < 0) = false := decide_eq_false (by omega)
   simp only [if_true, h1, h2, and_self, decide_true, hd]
   have hs := scaleT_in (q % 6) (kindN p)
   have hp := pow_le_nat (a := (q / 6).toNat) (b := 6) (by omega)
   have hp1 := pow_ge1 (q / 6).toNat
   have hm : scaleT (q % 6) (kindN p) * 2 ^ (q / 6).toNat ≤ 29 * 2 ^ 6 := Int.mul_le_mul hs.2 hp (by omega) (by omega)
   have hl := sscale_loop q h1 (q / 6).toNat 0 (scaleT (q % 6) (kindN p)) (by omega) (by omega) (by omega) (by omega)
   have hj : Ev (fun k => spec_ScaleOf.j1 k q (scaleT (q % 6) (kindN p))) (scaleT (q % 6) (kindN p) * 2 ^ (q / 6).toNat) := Ev.step (fun k => by simp only [spec_ScaleOf.j1]) hl
   refine Ev.step (fun k => ?_) hj
   simp only [spec_ScaleOf.j0, Bool.false_eq_true, if_false, spick_val, Option.bind_some, Int.tmod_eq_emod_of_nonneg h1.1]
   have hq6 : q % 6 = 0 ∨ q % 6 = 1 ∨ q % 6 = 2 ∨ q % 6 = 3 ∨ q % 6 = 4 ∨ q % 6 = 5 := by omega
   unfold scaleT
   generalize q % 6 = m at hq6
   rcases hq6 with rfl | rfl | rfl | rfl | rfl | rfl <;> rfl
  ·have hk : kindN p < 0 := by unfold kindN; rw [if_neg h2]; omega
   simp only [h1, and_self, decide_true, if_true, h2, and_false, if_false, decide_eq_true hk]
   exact hbad _ _
 ·simp only [decide_eq_false h1, if_false, h1, false_and, Bool.false_eq_true]
  exact hbad _ _
def stepT (m : Int) : Int := if m = 0 then 10 else if m = 1 then 11 else if m = 2 then 13 else if m = 3 then 14 else if m = 4 then 16 else 18
def stepN (q : Int) : Int := if 0 ≤ q ∧ q ≤ 40 then stepT (q % 6) * 2 ^ (q / 6).toNat else 0
theorem stepT_in (m : Int) : 10 ≤ stepT m ∧ stepT m ≤ 18 := by
 unfold stepT
 repeat' split
 all_goals omega
theorem step_val (q : Int) : impl_StepOf.f q = some (stepN q) := by
 unfold impl_StepOf.f stepN
 simp only [within_eq, Option.bind_some]
 by_cases h : 0 ≤ q ∧ q ≤ 40
 ·have e : wrap64 (Int.tdiv q 6) = q / 6 := by rw [Int.tdiv_eq_ediv_of_nonneg h.1, wrap_id (by omega) (by omega)]
  have g1 : (0 : Int) ≤ q % 6 := by omega
  have g2 : q % 6 < (([10, 11, 13, 14, 16, 18] : List Int).length : Int) := by simp only [List.length_cons, List.length_nil]; omega
  have g3 : (0 : Int) ≤ q / 6 := by omega
  have hr : rd [10, 11, 13, 14, 16, 18] (q % 6) = stepT (q % 6) := by
   have hq : q % 6 = 0 ∨ q % 6 = 1 ∨ q % 6 = 2 ∨ q % 6 = 3 ∨ q % 6 = 4 ∨ q % 6 = 5 := by omega
   generalize q % 6 = m at hq
   rcases hq with rfl | rfl | rfl | rfl | rfl | rfl <;> rfl
  have hs := stepT_in (q % 6)
  simp only [h, and_self, decide_true, if_true, e, Int.tmod_eq_emod_of_nonneg h.1, g1, g2, g3, hr]
  rw [shl_val (by omega) (by omega)]
 ·simp only [h, decide_false, if_false, Bool.false_eq_true]
theorem condB_in {q : Int} {c d : Bool} (h : condB q c d = true) : 0 ≤ q ∧ q ≤ 40 := by
 unfold condB at h
 exact of_decide_eq_true (Bool.and_eq_true _ _ ▸ h).1
theorem sstep_fin : ∀ q : Fin 41, spec_StepOf.f 80 (q.val : Int) = some (stepN (q.val : Int)) := by decide +kernel
theorem sstep_ev {q : Int} (h : 0 ≤ q ∧ q ≤ 40) : Ev (fun k => spec_StepOf.f k q) (stepN q) := by
 have e : ((⟨q.toNat, by omega⟩ : Fin 41).val : Int) = q := Int.toNat_of_nonneg h.1
 have f := sstep_fin ⟨q.toNat, by omega⟩
 rw [e] at f
 exact Ev.of (fun n => spec_StepOf.mono _ _) f
def largeB (x q : Int) : Int := if -5000 ≤ x ∧ x ≤ 5000 then wrap64 (x * stepN q) else 0
def smallB (x q p : Int) : Int := if -5000 ≤ x ∧ x ≤ 5000 then wrap64 (x * scaleN q p) else 0
theorem mul_in {x s a b : Int} (hx : -a ≤ x ∧ x ≤ a) (hs : 0 ≤ s ∧ s ≤ b) (ha : 0 ≤ a) : -(a * b) ≤ x * s ∧ x * s ≤ a * b := by
 have h1 : x * s ≤ a * s := Int.mul_le_mul_of_nonneg_right hx.2 hs.1
 have h2 : a * s ≤ a * b := Int.mul_le_mul_of_nonneg_left hs.2 ha
 have h3 : -a * s ≤ x * s := Int.mul_le_mul_of_nonneg_right hx.1 hs.1
 rw [Int.neg_mul] at h3
 omega
theorem scaleN_in {q : Int} (hq : 0 ≤ q ∧ q ≤ 40) (p : Int) : 0 ≤ scaleN q p ∧ scaleN q p ≤ 1856 := by
 unfold scaleN
 split
 ·have h := scaleT_in (q % 6) (kindN p)
  have e : (q / 6).toNat ≤ 6 := by omega
  have h2 : (1 : Int) ≤ 2 ^ (q / 6).toNat ∧ (2 : Int) ^ (q / 6).toNat ≤ 64 := by
   generalize (q / 6).toNat = n at e
   have : n = 0 ∨ n = 1 ∨ n = 2 ∨ n = 3 ∨ n = 4 ∨ n = 5 ∨ n = 6 := by omega
   rcases this with rfl | rfl | rfl | rfl | rfl | rfl | rfl <;> decide
  have h3 := mul_in (x := scaleT (q % 6) (kindN p)) (s := 2 ^ (q / 6).toNat) (a := 29) (b := 64) (by omega) (by omega) (by omega)
  have h4 : 0 ≤ scaleT (q % 6) (kindN p) * 2 ^ (q / 6).toNat := Int.mul_nonneg (by omega) (by omega)
  omega
 ·omega
theorem smallB_in {q : Int} (hq : 0 ≤ q ∧ q ≤ 40) (x p : Int) : -10000000 ≤ smallB x q p ∧ smallB x q p ≤ 10000000 := by
 unfold smallB
 split
 ·rename_i hx
  have h := mul_in (x := x) (s := scaleN q p) (a := 5000) (b := 1856) (by omega) (scaleN_in hq p) (by omega)
  rw [wrap_id (by omega) (by omega)]
  omega
 ·omega
theorem smallB_ok (l : List Int) (hl : l.length = 16) {q : Int} (hq : 0 ≤ q ∧ q ≤ 40) : FbOk (l.mapIdx (fun i x => smallB x q (i : Int))) := by
 refine ⟨by rw [List.length_mapIdx, hl], allB_iff.2 (fun v hv => ?_)⟩
 obtain ⟨i, hi, rfl⟩ := List.getElem_of_mem hv
 rw [List.getElem_mapIdx]
 exact smallB_in hq _ _
theorem fbv_len16 {m : List Int} (h : FbOk m) : (fbv m).length = 16 := by rw [fbv, if_pos h, settledL_len, turnedL_len, h.1]
def scat (out : List Int) (kk : Nat) (v : List Int) : Nat → List Int
 | 0 => out
 | i + 1 => (scat out kk v i).set (atq kk i) (rd v (i : Int))
theorem scat_len (out : List Int) (kk : Nat) (v : List Int) : ∀ i, (scat out kk v i).length = out.length
 | 0 => rfl
 | i + 1 => by rw [scat, List.length_set, scat_len out kk v i]
def slc (l : List Int) (kk : Nat) : List Int := (l.take (16 * kk + 16)).drop (16 * kk)
theorem slc_len (l : List Int) (hl : l.length = 64) (kk : Nat) (hk : kk < 4) : (slc l kk).length = 16 := by
 unfold slc
 rw [List.length_drop, List.length_take]
 omega
def outb (l : List Int) (q : Int) : Nat → List Int
 | 0 => List.replicate 64 0
 | kk + 1 => scat (outb l q kk) kk (fbv ((unscv 4 (slc l kk)).mapIdx (fun i x => smallB x q (i : Int)))) 16
theorem outb_len (l : List Int) (q : Int) : ∀ k, (outb l q k).length = 64
 | 0 => by simp [outb]
 | k + 1 => by rw [outb, scat_len, outb_len l q k]
def lbN (l : List Int) (q : Int) (c d : Bool) : List Int × Bool :=
 if (l.length = 64 ∧ allB (-5000) 5000 l = true) ∧ condB q c d = true then (if d = true then (unscv 8 l, true) else (if c = true then (ebv ((unscv 8 l).map (largeB · q)), true) else (outb l q 4, true))) else ([], false)
theorem lbN_len (l : List Int) (q : Int) (c d : Bool) : (lbN l q c d).1.length ≤ 64 := by
 unfold lbN
 split
 ·rename_i h
  split
  ·exact Nat.le_of_eq (by show (unscv 8 l).length = 64; rw [unscv_len, h.1.1])
  ·split
   ·exact ebv_len _
   ·have h4 := outb_len l q 4
    generalize outb l q 4 = o at h4 ⊢
    exact Nat.le_of_eq h4
 ·exact Nat.zero_le _
theorem Ev.of_some {α : Type} {x : Option α} {v : α} (h : x = some v) : Ev (fun _ => x) v := by rw [h]; exact Ev.now _
theorem largeback_val {q : Int} (hq : 0 ≤ q ∧ q ≤ 40) (x : Int) : impl_LargeBack.f x q = some (largeB x q) := by
 unfold impl_LargeBack.f largeB
 rw [within_eq, Option.bind_some]
 by_cases c : -5000 ≤ x ∧ x ≤ 5000
 ·rw [if_pos (decide_eq_true c), if_pos c, step_val, Option.bind_some]
 ·rw [if_neg (by simpa using c), if_neg c]
theorem slargeback_ev {q : Int} (hq : 0 ≤ q ∧ q ≤ 40) (x : Int) : Ev (fun k => spec_LargeBack.f k x q) (largeB x q) := by
 unfold spec_LargeBack.f largeB
 simp only [in_eq, Option.bind_some]
 by_cases c : -5000 ≤ x ∧ x ≤ 5000
 ·rw [if_pos c]
  simp only [decide_eq_true c, if_true]
  exact Ev.bind (sstep_ev hq) (Ev.now _)
 ·rw [if_neg c]
  simp only [decide_eq_false c, Bool.false_eq_true, if_false]
  exact Ev.now _
theorem smallback_ev (x q p : Int) : Ev (fun k => impl_SmallBack.f k x q p) (smallB x q p) := by
 unfold impl_SmallBack.f smallB
 simp only [within_eq, Option.bind_some]
 by_cases c : -5000 ≤ x ∧ x ≤ 5000
 ·rw [if_pos c]
  simp only [decide_eq_true c, if_true]
  exact Ev.bind (scale_ev q p) (Ev.now _)
 ·rw [if_neg c]
  simp only [decide_eq_false c, Bool.false_eq_true, if_false]
  exact Ev.now _
theorem ssmallback_ev (x q p : Int) : Ev (fun k => spec_SmallBack.f k x q p) (smallB x q p) := by
 unfold spec_SmallBack.f smallB
 simp only [in_eq, Option.bind_some]
 by_cases c : -5000 ≤ x ∧ x ≤ 5000
 ·rw [if_pos c]
  simp only [decide_eq_true c, if_true]
  exact Ev.bind (sscale_ev q p) (Ev.now _)
 ·rw [if_neg c]
  simp only [decide_eq_false c, Bool.false_eq_true, if_false]
  exact Ev.now _
theorem back_large (l : List Int) (hl : l.length = 64) (a : Bool) (q : Int) (hq : 0 ≤ q ∧ q ≤ 40) (c d : Bool) : Ev (fun k => impl_LevelsBack.l0 k l 64 0 a q c d) (ebv (l.map (largeB · q)), true) := by
 obtain ⟨m, hm⟩ : ∃ m, m = l.map (largeB · q) := ⟨_, rfl⟩
 have lm : m.length = 64 := by rw [hm, List.length_map, hl]
 rw [← hm]
 have H : ∀ i, i ≤ 64 → Ev (fun k => impl_LevelsBack.l0 k (m.take i ++ l.drop i) 64 (i : Int) a q c d) (ebv m, true) := by
  refine down 64 ?_ ?_
  ·have e : m.take 64 ++ l.drop 64 = m := by rw [List.take_of_length_le (by omega), List.drop_eq_nil_of_le (by omega), List.append_nil]
   refine Ev.step (f := fun k => (impl_EightBack.f k m).bind fun t => (some (t, true))) (fun k => ?_) (Ev.bind (eightback_ev m (by omega)) (Ev.now _))
   simp only [impl_LevelsBack.l0]
   rw [if_neg (by omega), e]
  ·intro i hi h
   have hr := mix_rd m l i (by omega) (by omega)
   have hlen := mix_length m l i (by omega) (by omega)
   have hset := mix_set m l i (by omega) (by omega)
   have hv : m[i]'(by omega) = largeB (l[i]'(by omega)) q := by simp [hm]
   rw [hv] at hset
   refine Ev.step (f := fun k => (impl_LargeBack.f (l[i]'(by omega)) q).bind fun t => impl_LevelsBack.l0 k ((m.take i ++ l.drop i).set i t) 64 ((i : Int) + 1) a q c d) (fun k => ?_) (Ev.bind (Ev.of_some (largeback_val hq _)) ?_)
   ·simp only [impl_LevelsBack.l0]
    rw [if_pos (by omega), if_pos (by omega), if_pos (by rw [hlen]; omega), hr, Int.toNat_natCast, wrap_id (x := (i : Int) + 1) (by omega) (by omega)]
   ·rw [hset]
    exact h
 have h0 := H 0 (by omega)
 exact h0
theorem back_scat (x0 out v : List Int) (kk : Nat) (hk : kk < 4) (ho : out.length = 64) (hv : v.length = 16) (a : Bool) (q : Int) (c d : Bool) (R : List Int × Bool)
  (h : Ev (fun k => impl_LevelsBack.l1 k x0 (scat out kk v 16) ((kk + 1 : Nat) : Int) a q c d) R) : Ev (fun k => impl_LevelsBack.l3 k x0 out v (kk : Int) (qL kk) 16 0 a q c d) R := by
 have H : ∀ i, i ≤ 16 → Ev (fun k => impl_LevelsBack.l3 k x0 (scat out kk v i) v (kk : Int) (qL kk) 16 (i : Int) a q c d) R := by
  refine down 16 ?_ ?_
  ·refine Ev.step (fun k => ?_) h
   simp only [impl_LevelsBack.l3]
   rw [if_neg (by omega), wrap_id (x := (kk : Int) + 1) (by omega) (by omega), cast1]
  ·intro i hi h1
   have hq := qL_rd kk i hi
   have hat := atq_lt kk i hk hi
   refine Ev.step (fun k => ?_) h1
   simp only [impl_LevelsBack.l3]
   rw [if_pos (by omega), if_pos (by omega), if_pos (by rw [qL_len]; omega), if_pos (by omega), hq, if_pos (by omega), if_pos (by rw [scat_len, ho]; omega), Int.toNat_natCast, wrap_id (x := (i : Int) + 1) (by omega) (by omega), cast1]
   rfl
 exact H 0 (by omega)
theorem back_small (x0 out : List Int) (kk : Nat) (hk : kk < 4) (ho : out.length = 64) (l : List Int) (hl : l.length = 16) (a : Bool) (q : Int) (hq : 0 ≤ q ∧ q ≤ 40) (c d : Bool) (R : List Int × Bool)
  (h : Ev (fun k => impl_LevelsBack.l1 k x0 (scat out kk (fbv (l.mapIdx (fun i x => smallB x q (i : Int)))) 16) ((kk + 1 : Nat) : Int) a q c d) R) : Ev (fun k => impl_LevelsBack.l2 k x0 out (kk : Int) l (kk : Int) 16 0 a q c d) R := by
 have hok := smallB_ok l hl hq
 obtain ⟨m, hm⟩ : ∃ m, m = l.mapIdx (fun i x => smallB x q (i : Int)) := ⟨_, rfl⟩
 have lm : m.length = 16 := by rw [hm, List.length_mapIdx, hl]
 rw [← hm] at h hok
 have H : ∀ i, i ≤ 16 → Ev (fun k => impl_LevelsBack.l2 k x0 out (kk : Int) (m.take i ++ l.drop i) (kk : Int) 16 (i : Int) a q c d) R := by
  refine down 16 ?_ ?_
  ·have e : m.take 16 ++ l.drop 16 = m := by rw [List.take_of_length_le (by omega), List.drop_eq_nil_of_le (by omega), List.append_nil]
   have hF : ((fbv m).length : Nat) = 16 := fbv_len16 hok
   refine Ev.step (f := fun k => (impl_FourBack.f k m).bind fun t => ((impl_quarter.f k (kk : Int)).bind fun u => (impl_LevelsBack.l3 k x0 out t (kk : Int) u (u.length : Int) 0 a q c d))) (fun k => ?_) (Ev.bind (fourback_ev m (by omega)) (Ev.bind (quarter_ev kk hk) ?_))
   ·simp only [impl_LevelsBack.l2]
    rw [if_neg (by omega), e]
   ·rw [qL_len]
    exact back_scat x0 out (fbv m) kk hk ho hF a q c d R h
  ·intro i hi h1
   have hr := mix_rd m l i (by omega) (by omega)
   have hlen := mix_length m l i (by omega) (by omega)
   have hset := mix_set m l i (by omega) (by omega)
   have hv : m[i]'(by omega) = smallB (l[i]'(by omega)) q (i : Int) := by simp [hm]
   rw [hv] at hset
   refine Ev.step (f := fun k => (impl_SmallBack.f k (l[i]'(by omega)) q (i : Int)).bind fun t => impl_LevelsBack.l2 k x0 out (kk : Int) ((m.take i ++ l.drop i).set i t) (kk : Int) 16 ((i : Int) + 1) a q c d) (fun k => ?_) (Ev.bind (smallback_ev _ q _) ?_)
   ·simp only [impl_LevelsBack.l2]
    rw [if_pos (by omega), if_pos (by omega), if_pos (by rw [hlen]; omega), hr, Int.toNat_natCast, wrap_id (x := (i : Int) + 1) (by omega) (by omega)]
   ·rw [hset]
    exact h1
 have h0 := H 0 (by omega)
 exact h0
theorem back_rounds (l : List Int) (hl : l.length = 64) (a : Bool) (q : Int) (hq : 0 ≤ q ∧ q ≤ 40) (c d : Bool) : Ev (fun k => impl_LevelsBack.l1 k l (List.replicate 64 0) 0 a q c d) (outb l q 4, true) := by
 have H : ∀ kk, kk ≤ 4 → Ev (fun k => impl_LevelsBack.l1 k l (outb l q kk) (kk : Int) a q c d) (outb l q 4, true) := by
  refine down 4 ?_ ?_
  ·exact Ev.step (f := fun _ => some (outb l q 4, true)) (fun k => by simp only [impl_LevelsBack.l1]; rw [if_neg (by omega)]) (Ev.now _)
  ·intro kk hk h
   have lz := slc_len l hl kk hk
   have h3 := back_small l (outb l q kk) kk hk (outb_len l q kk) (unscv 4 (slc l kk)) (by rw [unscv_len, lz]) a q hq c d _ h
   have hs := unscanned_ev 4 (slc l kk)
   rw [if_pos (show ScOk 4 (slc l kk) from Or.inl ⟨rfl, lz⟩)] at hs
   have e1 : wrap64 (16 * (kk : Int)) = ((16 * kk : Nat) : Int) := by rw [wrap_id (by omega) (by omega)]; omega
   have e2 : wrap64 (((16 * kk : Nat) : Int) + 16) = ((16 * kk + 16 : Nat) : Int) := by rw [wrap_id (by omega) (by omega)]; omega
   refine Ev.step (f := fun k => (impl_Unscanned.f k 4 (slc l kk)).bind fun bt => (impl_LevelsBack.l2 k l (outb l q kk) (kk : Int) bt.1 (kk : Int) (bt.1.length : Int) 0 a q c d)) (fun k => ?_) (Ev.bind hs ?_)
   ·simp only [impl_LevelsBack.l1, e1, e2]
    rw [if_pos (by omega), if_pos (by omega), if_pos (by omega), if_pos (by omega), Int.toNat_natCast, Int.toNat_natCast]
    rfl
   ·rw [show ((unscv 4 (slc l kk)).length : Int) = 16 from by rw [unscv_len, lz]; rfl]
    exact h3
 exact H 0 (by omega)
theorem levelsback_ev (l : List Int) (hl : l.length ≤ 17592186043904) (a : Bool) (q : Int) (c d : Bool) : Ev (fun k => impl_LevelsBack.f k l a q c d) (lbN l q c d) := by
 have hbad : Ev (fun k => impl_LevelsBack.j0 k l true a q c d) ([], false) := Ev.step (f := fun _ => some ([], false)) (fun k => by simp only [impl_LevelsBack.j0]; rfl) (Ev.now _)
 unfold impl_LevelsBack.f lbN
 have hA : Ev (fun k => impl_areLevels.f k l) (decide ((l.length : Int) = 64) && allB (-5000) 5000 l) := by
  unfold impl_areLevels.f
  exact Ev.bind (areIn_ev l 64 (-5000) 5000 hl) (Ev.now _)
 refine Ev.bind hA ?_
 rw [len_dec4 l 64 64 rfl]
 by_cases h0 : l.length = 64 ∧ allB (-5000) 5000 l = true
 ·rw [decide_eq_true h0.1, h0.2]
  simp only [Bool.and_self, if_true, cond_val, Option.bind_some]
  cases hc : condB q c d with
  | false =>
   rw [if_neg (fun h => by cases h.2)]
   exact hbad
  | true =>
   rw [if_pos ⟨⟨h0.1, trivial⟩, rfl⟩]
   have hq := condB_in hc
   have hs := unscanned_ev 8 l
   rw [if_pos (show ScOk 8 l from Or.inr ⟨rfl, h0.1⟩)] at hs
   cases d with
   | true =>
    refine Ev.step (fun k => by simp only [impl_LevelsBack.j0, Bool.and_self, Bool.not_true, Bool.false_eq_true, if_false, if_true]; rfl) (Ev.bind hs ?_)
    simp only [if_true]; exact Ev.now _
   | false =>
    cases c with
    | true =>
     have hu : (unscv 8 l).length = 64 := by rw [unscv_len, h0.1]
     refine Ev.step (fun k => by simp only [impl_LevelsBack.j0, Bool.and_self, Bool.not_true, Bool.false_eq_true, if_false, if_true]; rfl) (Ev.bind hs ?_)
     rw [show ((unscv 8 l).length : Int) = 64 from by rw [hu]; rfl]
     exact back_large _ hu a q hq true false
    | false =>
     have g : (64 : Nat) ≤ 35184372088832 := by omega
     refine Ev.step (fun k => by simp only [impl_LevelsBack.j0, Bool.and_self, Bool.not_true, Bool.false_eq_true, if_false, g, if_true]) (back_rounds l h0.1 a q hq false false)
 ·rw [and_false4 h0, if_neg (fun h => h0 h.1)]
  simp only [Bool.false_eq_true, if_false]
  exact hbad
theorem sback_large (l : List Int) (hl : l.length = 64) (a : Bool) (q : Int) (hq : 0 ≤ q ∧ q ≤ 40) (c d : Bool) : Ev (fun k => spec_LevelsBack.l0 k l 0 a q c d) (ebv (l.map (largeB · q)), true) := by
 obtain ⟨m, hm⟩ : ∃ m, m = l.map (largeB · q) := ⟨_, rfl⟩
 have lm : m.length = 64 := by rw [hm, List.length_map, hl]
 rw [← hm]
 have H : ∀ i, i ≤ 64 → Ev (fun k => spec_LevelsBack.l0 k (m.take i ++ l.drop i) (i : Int) a q c d) (ebv m, true) := by
  refine down 64 ?_ ?_
  ·have e : m.take 64 ++ l.drop 64 = m := by rw [List.take_of_length_le (by omega), List.drop_eq_nil_of_le (by omega), List.append_nil]
   refine Ev.step (f := fun k => (spec_EightBack.f k m).bind fun t => (some (t, true))) (fun k => ?_) (Ev.bind (seightback_ev m (by omega)) (Ev.now _))
   simp only [spec_LevelsBack.l0]
   rw [if_neg (by omega), e]
  ·intro i hi h
   have hr := mix_rd m l i (by omega) (by omega)
   have hlen := mix_length m l i (by omega) (by omega)
   have hset := mix_set m l i (by omega) (by omega)
   have hv : m[i]'(by omega) = largeB (l[i]'(by omega)) q := by simp [hm]
   rw [hv] at hset
   refine Ev.step (f := fun k => (spec_LargeBack.f k (l[i]'(by omega)) q).bind fun t => spec_LevelsBack.l0 k ((m.take i ++ l.drop i).set i t) ((i : Int) + 1) a q c d) (fun k => ?_) (Ev.bind (slargeback_ev hq _) ?_)
   ·simp only [spec_LevelsBack.l0]
    rw [if_pos (by omega), if_pos (by omega), if_pos (by rw [hlen]; omega), hr, Int.toNat_natCast, wrap_id (x := (i : Int) + 1) (by omega) (by omega)]
   ·rw [hset]
    exact h
 have h0 := H 0 (by omega)
 exact h0
theorem sback_scat (x0 out v : List Int) (kk : Nat) (hk : kk < 4) (ho : out.length = 64) (hv : v.length = 16) (a : Bool) (q : Int) (c d : Bool) (R : List Int × Bool)
  (h : Ev (fun k => spec_LevelsBack.l1 k x0 (scat out kk v 16) ((kk + 1 : Nat) : Int) a q c d) R) : Ev (fun k => spec_LevelsBack.l3 k x0 out (kk : Int) v 0 a q c d) R := by
 have H : ∀ i, i ≤ 16 → Ev (fun k => spec_LevelsBack.l3 k x0 (scat out kk v i) (kk : Int) v (i : Int) a q c d) R := by
  refine down 16 ?_ ?_
  ·refine Ev.step (fun k => ?_) h
   simp only [spec_LevelsBack.l3]
   rw [if_neg (by omega), wrap_id (x := (kk : Int) + 1) (by omega) (by omega), cast1]
  ·intro i hi h1
   have hat := atq_lt kk i hk hi
   have ha := atq_fin ⟨kk, hk⟩ ⟨i, hi⟩
   refine Ev.step (fun k => ?_) h1
   simp only [spec_LevelsBack.l3, ha]
   rw [if_pos (by omega), if_pos (by omega), if_pos (by omega), if_pos (by omega), if_pos (by rw [scat_len, ho]; omega), Int.toNat_natCast, wrap_id (x := (i : Int) + 1) (by omega) (by omega), cast1]
   rfl
 exact H 0 (by omega)
theorem sback_small (x0 out : List Int) (kk : Nat) (hk : kk < 4) (ho : out.length = 64) (l : List Int) (hl : l.length = 16) (a : Bool) (q : Int) (hq : 0 ≤ q ∧ q ≤ 40) (c d : Bool) (R : List Int × Bool)
  (h : Ev (fun k => spec_LevelsBack.l1 k x0 (scat out kk (fbv (l.mapIdx (fun i x => smallB x q (i : Int)))) 16) ((kk + 1 : Nat) : Int) a q c d) R) : Ev (fun k => spec_LevelsBack.l2 k x0 out (kk : Int) l 0 a q c d) R := by
 have hok := smallB_ok l hl hq
 obtain ⟨m, hm⟩ : ∃ m, m = l.mapIdx (fun i x => smallB x q (i : Int)) := ⟨_, rfl⟩
 have lm : m.length = 16 := by rw [hm, List.length_mapIdx, hl]
 rw [← hm] at h hok
 have H : ∀ i, i ≤ 16 → Ev (fun k => spec_LevelsBack.l2 k x0 out (kk : Int) (m.take i ++ l.drop i) (i : Int) a q c d) R := by
  refine down 16 ?_ ?_
  ·have e : m.take 16 ++ l.drop 16 = m := by rw [List.take_of_length_le (by omega), List.drop_eq_nil_of_le (by omega), List.append_nil]
   have hF : ((fbv m).length : Nat) = 16 := fbv_len16 hok
   refine Ev.step (f := fun k => (spec_FourBack.f k m).bind fun t => (spec_LevelsBack.l3 k x0 out (kk : Int) t 0 a q c d)) (fun k => ?_) (Ev.bind (sfourback_ev m (by omega)) (sback_scat x0 out (fbv m) kk hk ho hF a q c d R h))
   simp only [spec_LevelsBack.l2]
   rw [if_neg (by omega), e]
  ·intro i hi h1
   have hr := mix_rd m l i (by omega) (by omega)
   have hlen := mix_length m l i (by omega) (by omega)
   have hset := mix_set m l i (by omega) (by omega)
   have hv : m[i]'(by omega) = smallB (l[i]'(by omega)) q (i : Int) := by simp [hm]
   rw [hv] at hset
   refine Ev.step (f := fun k => (spec_SmallBack.f k (l[i]'(by omega)) q (i : Int)).bind fun t => spec_LevelsBack.l2 k x0 out (kk : Int) ((m.take i ++ l.drop i).set i t) ((i : Int) + 1) a q c d) (fun k => ?_) (Ev.bind (ssmallback_ev _ q _) ?_)
   ·simp only [spec_LevelsBack.l2]
    rw [if_pos (by omega), if_pos (by omega), if_pos (by rw [hlen]; omega), hr, Int.toNat_natCast, wrap_id (x := (i : Int) + 1) (by omega) (by omega)]
   ·rw [hset]
    exact h1
 have h0 := H 0 (by omega)
 exact h0
theorem sback_rounds (l : List Int) (hl : l.length = 64) (a : Bool) (q : Int) (hq : 0 ≤ q ∧ q ≤ 40) (c d : Bool) : Ev (fun k => spec_LevelsBack.l1 k l (List.replicate 64 0) 0 a q c d) (outb l q 4, true) := by
 have H : ∀ kk, kk ≤ 4 → Ev (fun k => spec_LevelsBack.l1 k l (outb l q kk) (kk : Int) a q c d) (outb l q 4, true) := by
  refine down 4 ?_ ?_
  ·exact Ev.step (f := fun _ => some (outb l q 4, true)) (fun k => by simp only [spec_LevelsBack.l1]; rw [if_neg (by omega)]) (Ev.now _)
  ·intro kk hk h
   have lz := slc_len l hl kk hk
   have h3 := sback_small l (outb l q kk) kk hk (outb_len l q kk) (unscv 4 (slc l kk)) (by rw [unscv_len, lz]) a q hq c d _ h
   have hs := sunscanned_ev 4 (slc l kk)
   rw [if_pos (show ScOk 4 (slc l kk) from Or.inl ⟨rfl, lz⟩)] at hs
   have e1 : wrap64 (16 * (kk : Int)) = ((16 * kk : Nat) : Int) := by rw [wrap_id (by omega) (by omega)]; omega
   have e2 : wrap64 (((16 * kk : Nat) : Int) + 16) = ((16 * kk + 16 : Nat) : Int) := by rw [wrap_id (by omega) (by omega)]; omega
   refine Ev.step (f := fun k => (spec_Unscanned.f k 4 (slc l kk)).bind fun bt => (spec_LevelsBack.l2 k l (outb l q kk) (kk : Int) bt.1 0 a q c d)) (fun k => ?_) (Ev.bind hs ?_)
   ·simp only [spec_LevelsBack.l1, e1, e2]
    rw [if_pos (by omega), if_pos (by omega), if_pos (by omega), if_pos (by omega), Int.toNat_natCast, Int.toNat_natCast]
    rfl
   ·exact h3
 exact H 0 (by omega)
theorem slevelsback_ev (l : List Int) (hl : l.length ≤ 17592186043904) (a : Bool) (q : Int) (c d : Bool) : Ev (fun k => spec_LevelsBack.f k l a q c d) (lbN l q c d) := by
 have hbad : Ev (fun k => spec_LevelsBack.j0 k l true a q c d) ([], false) := Ev.step (f := fun _ => some ([], false)) (fun k => by simp only [spec_LevelsBack.j0]; rfl) (Ev.now _)
 unfold spec_LevelsBack.f lbN
 simp only [scond_val, Option.bind_some]
 cases hc : condB q c d with
 | false =>
  simp only [Bool.false_eq_true, if_false, and_false]
  exact hbad
 | true =>
  have hq := condB_in hc
  simp only [if_true, and_true]
  refine Ev.bind (all_ev l 64 5000 hl (by omega) (by omega)) ?_
  rw [len_dec4 l 64 64 rfl]
  by_cases h0 : l.length = 64 ∧ allB (-5000) 5000 l = true
  ·rw [decide_eq_true h0.1, h0.2, if_pos ⟨h0.1, rfl⟩]
   have hs := sunscanned_ev 8 l
   rw [if_pos (show ScOk 8 l from Or.inr ⟨rfl, h0.1⟩)] at hs
   cases d with
   | true =>
    refine Ev.step (fun k => by simp only [spec_LevelsBack.j0, Bool.and_self, Bool.not_true, Bool.false_eq_true, if_false, if_true]; rfl) (Ev.bind hs ?_)
    simp only [if_true]; exact Ev.now _
   | false =>
    cases c with
    | true =>
     have hu : (unscv 8 l).length = 64 := by rw [unscv_len, h0.1]
     refine Ev.step (fun k => by simp only [spec_LevelsBack.j0, Bool.and_self, Bool.not_true, Bool.false_eq_true, if_false, if_true]; rfl) (Ev.bind hs ?_)
     exact sback_large _ hu a q hq true false
    | false =>
     have g : (64 : Nat) ≤ 35184372088832 := by omega
     refine Ev.step (fun k => by simp only [spec_LevelsBack.j0, Bool.and_self, Bool.not_true, Bool.false_eq_true, if_false, g, if_true]) (sback_rounds l h0.1 a q hq false false)
  ·rw [and_false4 h0, if_neg h0]
   exact hbad
/-- A side of edges is right: nothing, or eight dots. -/
def sideB (l : List Int) : Bool := decide (l.length = 0) || (decide (l.length = 8) && allB 0 255 l)
def edgesB (a l : List Int) (c : Int) : Bool := sideB a && (sideB l && decide (-1 ≤ c ∧ c ≤ 255))
theorem len_dec' (l : List Int) (n : Nat) (m : Int) (h : m = (n : Int)) : decide ((l.length : Int) = m) = decide (l.length = n) := by rw [decide_eq_decide]; omega
theorem side_loop (l : List Int) (hl : l.length ≤ 17592186043904) : ∀ i, i ≤ l.length → Ev (fun k => spec_l13Side.l0 k l (i : Int)) (allB 0 255 (l.drop i)) := by
 refine down l.length ?_ ?_
 ·refine Ev.step (f := fun _ => some true) (fun k => ?_) (by rw [List.drop_length]; exact Ev.now _)
  simp only [spec_l13Side.l0]
  rw [if_neg (by omega)]
 ·intro i h1 h
  rw [drop_cons h1, allB_cons]
  by_cases c : 0 ≤ l[i] ∧ l[i] ≤ 255
  ·rw [decide_eq_true c, Bool.true_and]
   refine Ev.step (fun k => ?_) h
   simp only [spec_l13Side.l0]
   rw [if_pos (by omega), if_pos (by omega), rd_nat l i h1, in_eq, Option.bind_some, if_pos (decide_eq_true c), wrap_id (by omega) (by omega), cast1]
  ·rw [decide_eq_false c, Bool.false_and]
   refine Ev.step (f := fun _ => some false) (fun k => ?_) (Ev.now _)
   simp only [spec_l13Side.l0]
   rw [if_pos (by omega), if_pos (by omega), rd_nat l i h1, in_eq, Option.bind_some, if_neg (by simpa using c)]
theorem side_ev (l : List Int) (hl : l.length ≤ 17592186043904) : Ev (fun k => spec_l13Side.f k l) (sideB l) := by
 unfold spec_l13Side.f sideB
 by_cases c0 : l.length = 0
 ·have e : l = [] := List.eq_nil_of_length_eq_zero c0
  subst e
  refine Ev.congr (f := fun k => spec_l13Side.j0 k [] false) (fun k => rfl) (Ev.step (fun k => by simp only [spec_l13Side.j0, Bool.false_eq_true, if_false]; rfl) ?_)
  exact side_loop [] (by simp) 0 (by simp)
 ·rw [decide_eq_false c0, Bool.false_or]
  by_cases c8 : l.length = 8
  ·rw [decide_eq_true c8, Bool.true_and]
   refine Ev.congr (fun k => by rw [if_neg (by omega), show ((l.length : Int) != 8) = false by rw [bne_eq_false_iff_eq]; omega]) (Ev.step (fun k => by simp only [spec_l13Side.j0, Bool.false_eq_true, if_false]; rfl) ?_)
   exact side_loop l hl 0 (by omega)
  ·rw [decide_eq_false c8, Bool.false_and]
   refine Ev.congr (fun k => by rw [if_neg (by omega), show ((l.length : Int) != 8) = true by rw [bne_iff_ne]; omega]) (Ev.step (f := fun _ => some false) (fun k => by simp only [spec_l13Side.j0]; rfl) (Ev.now _))
theorem sedges_ev (a l : List Int) (c : Int) (ha : a.length ≤ 17592186043904) (hl : l.length ≤ 17592186043904) : Ev (fun k => spec_EdgesOk.f k a l c) (edgesB a l c) := by
 unfold spec_EdgesOk.f edgesB
 refine Ev.bind (side_ev a ha) ?_
 cases sideB a with
 | false => simp only [Bool.false_eq_true, if_false, Bool.false_and]; exact Ev.now _
 | true =>
  simp only [if_true, Bool.true_and]
  refine Ev.bind (side_ev l hl) ?_
  cases sideB l with
  | false => simp only [Bool.false_eq_true, if_false, Bool.false_and]; exact Ev.now _
  | true =>
   simp only [if_true, Bool.true_and, in_eq, Option.bind_some]
   exact Ev.now _
theorem edge_round (a b l : List Int) (c : Int) (i : Int) (r : Bool) (x y : List Int) (hx : rd_L1 [x, y] i = a) (hi : i = 0 ∨ i = 1) (ha : a.length ≤ 17592186043904)
  (h : Ev (fun k => impl_EdgesOk.l0 k [x, y] 2 (i + 1) b l c) r) : Ev (fun k => impl_EdgesOk.l0 k [x, y] 2 i b l c) (sideB a && r) := by
 unfold sideB
 have hlen : (([x, y] : List (List Int)).length : Int) = 2 := rfl
 by_cases c0 : a.length = 0
 ·rw [decide_eq_true c0, Bool.true_or, Bool.true_and]
  refine Ev.step (fun k => ?_) h
  simp only [impl_EdgesOk.l0]
  rw [if_pos (by omega), if_pos (by omega), if_pos (by omega), hx, if_neg (by omega), wrap_id (by omega) (by omega)]
 ·rw [decide_eq_false c0, Bool.false_or]
  refine Ev.step (f := fun k => (impl_areIn.f k a 8 0 255).bind fun t => (if t = true then (impl_EdgesOk.l0 k [x, y] 2 (i + 1) b l c) else (some false))) (fun k => ?_) (Ev.bind (areIn_ev a 8 0 255 ha) ?_)
  ·simp only [impl_EdgesOk.l0]
   rw [if_pos (by omega), if_pos (by omega), if_pos (by omega), hx, if_pos (by omega), wrap_id (by omega) (by omega)]
  ·rw [len_dec' a 8 8 rfl]
   cases (decide (a.length = 8) && allB 0 255 a) with
   | false => simp only [Bool.false_eq_true, if_false, Bool.false_and]; exact Ev.now _
   | true => simp only [if_true, Bool.true_and]; exact h
theorem edges_ev (a l : List Int) (c : Int) (ha : a.length ≤ 17592186043904) (hl : l.length ≤ 17592186043904) : Ev (fun k => impl_EdgesOk.f k a l c) (edgesB a l c) := by
 unfold impl_EdgesOk.f edgesB
 simp only [Option.bind_some]
 refine edge_round a a l c 0 _ a l rfl (.inl rfl) ha ?_
 refine edge_round l a l c 1 _ a l rfl (.inr rfl) hl ?_
 refine Ev.step (f := fun _ => some (decide (-1 ≤ c ∧ c ≤ 255))) (fun k => ?_) (Ev.now _)
 simp only [impl_EdgesOk.l0]
 rw [if_neg (by omega), within_eq]
 rfl
def isum : List Int → Int
 | [] => 0
 | x :: l => x + isum l
theorem isum_bound (l : List Int) (h : ∀ x ∈ l, 0 ≤ x ∧ x ≤ 255) : 0 ≤ isum l ∧ isum l ≤ 255 * (l.length : Int) := by
 induction l with
 | nil => simp [isum]
 | cons x l ih =>
  have h1 := h x (by simp)
  have h2 := ih (fun y hy => h y (by simp [hy]))
  simp only [isum, List.length_cons]
  omega
def orG (l : List Int) : List Int := if l.length = 0 then [128, 128, 128, 128, 128, 128, 128, 128] else l
def midV (a l : List Int) : Int := if a.length + l.length = 0 then 128 else (isum a + isum l + ((a.length + l.length : Nat) : Int) / 2) / ((a.length + l.length : Nat) : Int)
def cornG (c : Int) : Int := if c < 0 then 128 else c
def guessAt (mode : Int) (a l : List Int) (c : Int) (i : Nat) : Int :=
 if mode = 0 then midV a l else if mode = 1 then rd (orG a) ((i % 8 : Nat) : Int) else if mode = 2 then rd (orG l) ((i / 8 : Nat) : Int) else mx 0 (mn (rd (orG l) ((i / 8 : Nat) : Int) + rd (orG a) ((i % 8 : Nat) : Int) - cornG c) 255)
def guessV (mode : Int) (a l : List Int) (c : Int) : List Int := (List.range 64).map (guessAt mode a l c)
theorem guessV_len (mode : Int) (a l : List Int) (c : Int) : (guessV mode a l c).length = 64 := by simp [guessV]
theorem guessV_get (mode : Int) (a l : List Int) (c : Int) (i : Nat) (h : i < (guessV mode a l c).length) : (guessV mode a l c)[i] = guessAt mode a l c i := by simp [guessV]
def guessR (mode : Int) (a l : List Int) (c : Int) : List Int := if edgesB a l c = true ∧ 0 ≤ mode ∧ mode ≤ 3 then guessV mode a l c else []
/-- What right edges are. -/
structure EdR (a l : List Int) (c : Int) : Prop where
 la : a.length = 0 ∨ a.length = 8
 ll : l.length = 0 ∨ l.length = 8
 ba : ∀ x ∈ a, 0 ≤ x ∧ x ≤ 255
 bl : ∀ x ∈ l, 0 ≤ x ∧ x ≤ 255
 bc : -1 ≤ c ∧ c ≤ 255
theorem sideB_iff {l : List Int} (h : sideB l = true) : (l.length = 0 ∨ l.length = 8) ∧ ∀ x ∈ l, 0 ≤ x ∧ x ≤ 255 := by
 unfold sideB at h
 rw [Bool.or_eq_true, Bool.and_eq_true, decide_eq_true_eq, decide_eq_true_eq] at h
 rcases h with h | ⟨h, hb⟩
 ·exact ⟨.inl h, fun x hx => by rw [List.eq_nil_of_length_eq_zero h] at hx; simp at hx⟩
 ·exact ⟨.inr h, allB_iff.1 hb⟩
theorem edgesB_right {a l : List Int} {c : Int} (h : edgesB a l c = true) : EdR a l c := by
 unfold edgesB at h
 rw [Bool.and_eq_true, Bool.and_eq_true, decide_eq_true_eq] at h
 have h1 := sideB_iff h.1
 have h2 := sideB_iff h.2.1
 exact ⟨h1.1, h2.1, h1.2, h2.2, h.2.2⟩
theorem orG_len {l : List Int} (h : l.length = 0 ∨ l.length = 8) : (orG l).length = 8 := by
 unfold orG
 rcases h with h | h
 ·rw [if_pos h]; rfl
 ·rw [if_neg (by omega)]; exact h
theorem orG_in {l : List Int} (hb : ∀ x ∈ l, 0 ≤ x ∧ x ≤ 255) : ∀ x ∈ orG l, 0 ≤ x ∧ x ≤ 255 := by
 unfold orG
 split
 ·intro x hx; simp at hx; omega
 ·exact hb
theorem orG_rd {l : List Int} (h : l.length = 0 ∨ l.length = 8) (hb : ∀ x ∈ l, 0 ≤ x ∧ x ≤ 255) (i : Nat) (hi : i < 8) : 0 ≤ rd (orG l) (i : Int) ∧ rd (orG l) (i : Int) ≤ 255 := by
 rw [rd_nat _ i (by rw [orG_len h]; exact hi)]
 exact orG_in hb _ (List.getElem_mem _)
theorem midV_in {a l : List Int} {c : Int} (h : EdR a l c) : 0 ≤ midV a l ∧ midV a l ≤ 255 := by
 unfold midV
 have h1 := isum_bound a h.ba
 have h2 := isum_bound l h.bl
 by_cases c0 : a.length + l.length = 0
 ·rw [if_pos c0]; omega
 ·rw [if_neg c0]
  have hn : a.length + l.length = 8 ∨ a.length + l.length = 16 := by rcases h.la with e | e <;> rcases h.ll with e' | e' <;> omega
  rcases hn with e | e <;> rw [e] <;> omega
theorem sumof_ev (l : List Int) (hl : l.length ≤ 8) (hb : ∀ x ∈ l, 0 ≤ x ∧ x ≤ 255) : Ev (fun k => impl_sumOf.f k l) (isum l) := by
 have H : ∀ i, i ≤ l.length → ∀ s : Int, 0 ≤ s → s ≤ 255 * (i : Int) → Ev (fun k => impl_sumOf.l0 k s l (l.length : Int) (i : Int)) (s + isum (l.drop i)) := by
  refine down l.length ?_ ?_
  ·intro s _ _
   rw [List.drop_length, isum, Int.add_zero]
   refine Ev.step (f := fun _ => some s) (fun k => ?_) (Ev.now _)
   simp only [impl_sumOf.l0]
   rw [if_neg (by omega)]
  ·intro i hi h s h0 h1
   have hx := hb _ (List.getElem_mem hi)
   have h' := h (s + l[i]) (by omega) (by omega)
   rw [drop_cons hi, isum, ← Int.add_assoc]
   refine Ev.step (fun k => ?_) h'
   simp only [impl_sumOf.l0]
   rw [if_pos (by omega), if_pos (by omega), if_pos (by omega), rd_nat l i hi, wrap_id (x := s + l[i]) (by omega) (by omega), wrap_id (by omega) (by omega), cast1]
 have h := H 0 (by omega) 0 (by omega) (by omega)
 rw [List.drop_zero, Int.zero_add] at h
 exact h
theorem orgrey_eq (l : List Int) : impl_orGrey.f l = some (orG l) := by
 unfold impl_orGrey.f orG
 by_cases c : l.length = 0
 ·rw [if_pos (by omega), if_pos c]
 ·rw [if_neg (by omega), if_neg c]
theorem guess_inner (mode : Int) (a l : List Int) (c : Int) (hm : 0 ≤ mode ∧ mode ≤ 3) (h : EdR a l c) (r : Nat) (hr : r < 8) (R : List Int)
  (hh : Ev (fun k => impl_GuessOf.l0 k mode ((guessV mode a l c).take (8 * (r + 1))) (midV a l) (orG a) (orG l) (cornG c) ((r + 1 : Nat) : Int)) R) :
  ∀ q : Nat, q ≤ 8 → Ev (fun k => impl_GuessOf.l1 k mode ((guessV mode a l c).take (8 * r + q)) (midV a l) (orG a) (orG l) (cornG c) (r : Int) (r : Int) (q : Int)) R := by
 have hl := guessV_len mode a l c
 have lA := orG_len h.la
 have lL := orG_len h.ll
 have hc : 0 ≤ cornG c ∧ cornG c ≤ 255 := by unfold cornG; have := h.bc; split <;> omega
 refine down 8 ?_ ?_
 ·refine Ev.step (fun k => ?_) hh
  simp only [impl_GuessOf.l1]
  rw [if_neg (by omega), wrap_id (by omega) (by omega), cast1]; rfl
 ·intro q hq h'
  have e := guessV_get mode a l c (8 * r + q) (by omega)
  unfold guessAt at e
  rw [show (8 * r + q) % 8 = q by omega, show (8 * r + q) / 8 = r by omega] at e
  have r1 := orG_rd h.la h.ba q hq
  have r2 := orG_rd h.ll h.bl r hr
  have hlen : ((guessV mode a l c).take (8 * r + q)).length < 17592186044416 := by simp; omega
  refine Ev.step (fun k => ?_) h'
  simp only [impl_GuessOf.l1]
  rw [if_pos (by omega), wrap_id (x := (q : Int) + 1) (by omega) (by omega), cast1]
  by_cases m0 : mode = 0
  ·rw [if_pos m0] at e ⊢
   rw [if_pos hlen, ← e, ← List.take_succ_eq_append_getElem (by omega)]; rfl
  ·rw [if_neg m0] at e ⊢
   by_cases m1 : mode = 1
   ·rw [if_pos m1] at e ⊢
    rw [if_pos (by omega), if_pos (by omega), if_pos hlen, ← e, ← List.take_succ_eq_append_getElem (by omega)]; rfl
   ·rw [if_neg m1] at e ⊢
    by_cases m2 : mode = 2
    ·rw [if_pos m2] at e ⊢
     rw [if_pos (by omega), if_pos (by omega), if_pos hlen, ← e, ← List.take_succ_eq_append_getElem (by omega)]; rfl
    ·rw [if_neg m2] at e ⊢
     rw [if_pos (by omega), if_pos (by omega), if_pos (by omega), if_pos (by omega), wrap_id (x := rd (orG l) (r : Int) + rd (orG a) (q : Int)) (by omega) (by omega), wrap_id (x := _ - cornG c) (by omega) (by omega)]
     unfold impl_Brought.f
     rw [Option.bind_some, if_pos hlen, ← e, ← List.take_succ_eq_append_getElem (by omega)]; rfl
theorem guess_rows (mode : Int) (a l : List Int) (c : Int) (hm : 0 ≤ mode ∧ mode ≤ 3) (h : EdR a l c) :
  ∀ r : Nat, r ≤ 8 → Ev (fun k => impl_GuessOf.l0 k mode ((guessV mode a l c).take (8 * r)) (midV a l) (orG a) (orG l) (cornG c) (r : Int)) (guessV mode a l c) := by
 have hl := guessV_len mode a l c
 refine down 8 ?_ ?_
 ·refine Ev.step (f := fun _ => some (guessV mode a l c)) (fun k => ?_) (Ev.now _)
  simp only [impl_GuessOf.l0]
  rw [if_neg (by omega), List.take_of_length_le (by omega)]
 ·intro r hr h'
  refine Ev.step (fun k => ?_) (guess_inner mode a l c hm h r hr _ h' 0 (by omega))
  simp only [impl_GuessOf.l0]
  rw [if_pos (by omega)]; rfl
theorem tdivn {x : Int} {n : Nat} (h : 0 ≤ x) : Int.tdiv x (n : Int) = x / (n : Int) := Int.tdiv_eq_ediv_of_nonneg h
theorem guess_j1 (mode : Int) (a l : List Int) (c : Int) (hm : 0 ≤ mode ∧ mode ≤ 3) (h : EdR a l c) : Ev (fun k => impl_GuessOf.j1 k mode [] (midV a l) a l c) (guessV mode a l c) := by
 have h0 := guess_rows mode a l c hm h 0 (by omega)
 have h1 : Ev (fun k => impl_GuessOf.j2 k mode [] (midV a l) (orG a) (orG l) (cornG c)) (guessV mode a l c) := Ev.step (fun k => by simp only [impl_GuessOf.j2] <;> rfl) h0
 refine Ev.step (fun k => ?_) h1
 simp only [impl_GuessOf.j1, orgrey_eq, Option.bind_some]
 unfold cornG
 by_cases c0 : c < 0
 ·rw [if_pos c0, if_pos c0]
 ·rw [if_neg c0, if_neg c0]
theorem guessof_ev (mode : Int) (a l : List Int) (c : Int) (ha : a.length ≤ 1048576) (hl : l.length ≤ 1048576) : Ev (fun k => impl_GuessOf.f k mode a l c) (guessR mode a l c) := by
 unfold impl_GuessOf.f guessR
 simp only [Option.bind_some, within_eq]
 have hbad : Ev (fun k => impl_GuessOf.j0 k mode [] true a l c) [] := Ev.step (f := fun _ => some []) (fun k => by simp only [impl_GuessOf.j0]; rfl) (Ev.now _)
 refine Ev.bind (edges_ev a l c (by omega) (by omega)) ?_
 by_cases he : edgesB a l c = true
 ·have h := edgesB_right he
  by_cases hm : 0 ≤ mode ∧ mode ≤ 3
  ·rw [if_pos ⟨he, hm⟩]
   simp only [he, hm, and_self, decide_true, if_true, Bool.not_true]
   have hj := guess_j1 mode a l c hm h
   have s1 := isum_bound a h.ba
   have s2 := isum_bound l h.bl
   have la : a.length ≤ 8 := by rcases h.la with e | e <;> omega
   have ll : l.length ≤ 8 := by rcases h.ll with e | e <;> omega
   have ew : wrap64 ((a.length : Int) + (l.length : Int)) = ((a.length + l.length : Nat) : Int) := by rw [wrap_id (by omega) (by omega)]; omega
   by_cases c0 : a.length + l.length = 0
   ·refine Ev.step (fun k => ?_) hj
    simp only [impl_GuessOf.j0, Bool.false_eq_true, if_false, ew]
    rw [if_neg (by omega)]
    unfold midV
    rw [if_pos c0]
   ·refine Ev.step (f := fun k => (impl_sumOf.f k a).bind fun t124 => ((impl_sumOf.f k l).bind fun t125 => impl_GuessOf.j1 k mode [] (wrap64 (Int.tdiv (wrap64 ((wrap64 (t124 + t125)) + (wrap64 (Int.tdiv ((a.length + l.length : Nat) : Int) 2)))) ((a.length + l.length : Nat) : Int))) a l c)) (fun k => ?_) (Ev.bind (sumof_ev a la h.ba) (Ev.bind (sumof_ev l ll h.bl) ?_))
    ·simp only [impl_GuessOf.j0, Bool.false_eq_true, if_false, ew]
     rw [if_pos (by omega)]
     simp only [show ¬ (((a.length + l.length : Nat) : Int) = 0) from by omega, if_false]
    ·have em : wrap64 (Int.tdiv (wrap64 ((wrap64 (isum a + isum l)) + (wrap64 (Int.tdiv ((a.length + l.length : Nat) : Int) 2)))) ((a.length + l.length : Nat) : Int)) = midV a l := by
      have hmid := midV_in h
      unfold midV at hmid ⊢
      rw [if_neg c0] at hmid ⊢
      have e2 : Int.tdiv ((a.length + l.length : Nat) : Int) 2 = ((a.length + l.length : Nat) : Int) / 2 := Int.tdiv_eq_ediv_of_nonneg (by omega)
      rw [e2, wrap_id (x := isum a + isum l) (by omega) (by omega), wrap_id (x := ((a.length + l.length : Nat) : Int) / 2) (by omega) (by omega), wrap_id (x := isum a + isum l + _) (by omega) (by omega), tdivn (by omega), wrap_id (by omega) (by omega)]
     rw [em]; exact hj
  ·rw [if_neg (fun h => hm h.2)]
   simp only [he, hm, decide_false, if_true, Bool.not_false]; exact hbad
 ·rw [if_neg (fun h => he h.1)]
  simp only [he, if_false]; exact hbad
theorem smid_l1 (a l : List Int) (c n : Int) (hn : n = 8 ∨ n = 16) (hl : l.length ≤ 8) (hb : ∀ x ∈ l, 0 ≤ x ∧ x ≤ 255) : ∀ i, i ≤ l.length → ∀ s : Int, 0 ≤ s → s ≤ 10000 + 255 * (i : Int) → Ev (fun k => spec_l13Mid.l1 k n s (i : Int) a l c) ((s + isum (l.drop i)) / n) := by
 refine down l.length ?_ ?_
 ·intro s h0 h1
  rw [List.drop_length, isum, Int.add_zero]
  refine Ev.step (f := fun _ => some (s / n)) (fun k => ?_) (Ev.now _)
  simp only [spec_l13Mid.l1]
  rw [if_neg (by omega), if_neg (by omega), Int.tdiv_eq_ediv_of_nonneg h0]
  congr 1
  rcases hn with e | e <;> subst e <;> exact wrap_id (by omega) (by omega)
 ·intro i hi h s h0 h1
  have hx := hb _ (List.getElem_mem hi)
  have h' := h (s + l[i]) (by omega) (by omega)
  rw [drop_cons hi, isum, ← Int.add_assoc]
  refine Ev.step (fun k => ?_) h'
  simp only [spec_l13Mid.l1]
  rw [if_pos (by omega), if_pos (by omega), rd_nat l i hi, wrap_id (x := s + l[i]) (by omega) (by omega), wrap_id (by omega) (by omega), cast1]
theorem smid_l0 (a l : List Int) (c n : Int) (hn : n = 8 ∨ n = 16) (ha : a.length ≤ 8) (hl : l.length ≤ 8) (hba : ∀ x ∈ a, 0 ≤ x ∧ x ≤ 255) (hb : ∀ x ∈ l, 0 ≤ x ∧ x ≤ 255) : ∀ i, i ≤ a.length → ∀ s : Int, 0 ≤ s → s ≤ 1000 + 255 * (i : Int) → Ev (fun k => spec_l13Mid.l0 k n s (i : Int) a l c) ((s + isum (a.drop i) + isum l) / n) := by
 refine down a.length ?_ ?_
 ·intro s h0 h1
  rw [List.drop_length, isum, Int.add_zero]
  have h' := smid_l1 a l c n hn hl hb 0 (by omega) s h0 (by omega)
  rw [List.drop_zero] at h'
  refine Ev.step (fun k => ?_) h'
  simp only [spec_l13Mid.l0]
  rw [if_neg (by omega)]; rfl
 ·intro i hi h s h0 h1
  have hx := hba _ (List.getElem_mem hi)
  have h' := h (s + a[i]) (by omega) (by omega)
  rw [drop_cons hi, isum, ← Int.add_assoc]
  refine Ev.step (fun k => ?_) h'
  simp only [spec_l13Mid.l0]
  rw [if_pos (by omega), if_pos (by omega), rd_nat a i hi, wrap_id (x := s + a[i]) (by omega) (by omega), wrap_id (by omega) (by omega), cast1]
theorem smid_ev (a l : List Int) (c : Int) (h : EdR a l c) : Ev (fun k => spec_l13Mid.f k a l c) (midV a l) := by
 have la : a.length ≤ 8 := by rcases h.la with e | e <;> omega
 have ll : l.length ≤ 8 := by rcases h.ll with e | e <;> omega
 have ew : wrap64 ((a.length : Int) + (l.length : Int)) = ((a.length + l.length : Nat) : Int) := by rw [wrap_id (by omega) (by omega)]; omega
 unfold spec_l13Mid.f midV
 rw [ew]
 by_cases c0 : a.length + l.length = 0
 ·rw [if_pos c0]
  exact Ev.congr (f := fun _ => some 128) (fun k => by rw [if_pos (by omega)]) (Ev.now _)
 ·rw [if_neg c0]
  have hn : ((a.length + l.length : Nat) : Int) = 8 ∨ ((a.length + l.length : Nat) : Int) = 16 := by rcases h.la with e | e <;> rcases h.ll with e' | e' <;> omega
  have e2 : Int.tdiv ((a.length + l.length : Nat) : Int) 2 = ((a.length + l.length : Nat) : Int) / 2 := Int.tdiv_eq_ediv_of_nonneg (by omega)
  have h' := smid_l0 a l c _ hn la ll h.ba h.bl 0 (by omega) (((a.length + l.length : Nat) : Int) / 2) (by omega) (by omega)
  rw [List.drop_zero] at h'
  rw [show isum a + isum l + ((a.length + l.length : Nat) : Int) / 2 = ((a.length + l.length : Nat) : Int) / 2 + isum a + isum l by omega]
  refine Ev.congr (fun k => ?_) h'
  rw [if_neg (by omega), e2, wrap_id (by omega) (by omega)]; rfl
theorem filled_eq {l : List Int} (h : l.length = 0 ∨ l.length = 8) (i : Nat) (hi : i < 8) : spec_l13Filled.f l (i : Int) = some (rd (orG l) (i : Int)) := by
 unfold spec_l13Filled.f orG
 by_cases c : l.length = 0
 ·rw [if_pos (by omega), if_pos c]
  congr 1
  have : ∀ j : Fin 8, (128 : Int) = rd [128, 128, 128, 128, 128, 128, 128, 128] (j.val : Int) := by decide +kernel
  exact this ⟨i, hi⟩
 ·rw [if_neg (by omega), if_neg c, if_pos (by omega), if_pos (by omega)]
theorem sguess_loop (mode : Int) (a l : List Int) (c : Int) (hm : 0 ≤ mode ∧ mode ≤ 3) (h : EdR a l c) :
  ∀ i : Nat, i ≤ 64 → Ev (fun k => spec_GuessOf.l0 k mode ((guessV mode a l c).take i) (cornG c) (i : Int) a l c) (guessV mode a l c) := by
 have hl := guessV_len mode a l c
 have hc : 0 ≤ cornG c ∧ cornG c ≤ 255 := by unfold cornG; have := h.bc; split <;> omega
 refine down 64 ?_ ?_
 ·refine Ev.step (f := fun _ => some (guessV mode a l c)) (fun k => ?_) (Ev.now _)
  simp only [spec_GuessOf.l0]
  rw [if_neg (by omega), List.take_of_length_le (by omega)]
 ·intro i hi h'
  have m1 : Int.tmod (i : Int) 8 = ((i % 8 : Nat) : Int) := by rw [Int.tmod_eq_emod_of_nonneg (by omega)]; omega
  have m2 : Int.tdiv (i : Int) 8 = ((i / 8 : Nat) : Int) := by rw [Int.tdiv_eq_ediv_of_nonneg (by omega)]; omega
  have hlen : ((guessV mode a l c).take i).length < 17592186044416 := by rw [List.length_take]; omega
  have p1 : (i : Int) < 64 := by omega
  have hli : i < (guessV mode a l c).length := by omega
  have q1 : i % 8 < 8 := by omega
  have q2 : i / 8 < 8 := by omega
  have f1 := filled_eq h.la (i % 8) q1
  have f2 := filled_eq h.ll (i / 8) q2
  have w3 : wrap64 (wrap64 (rd (orG l) ((i / 8 : Nat) : Int) + rd (orG a) ((i % 8 : Nat) : Int)) - cornG c) = rd (orG l) ((i / 8 : Nat) : Int) + rd (orG a) ((i % 8 : Nat) : Int) - cornG c := by
   have r1 := orG_rd h.la h.ba (i % 8) q1
   have r2 := orG_rd h.ll h.bl (i / 8) q2
   generalize rd (orG l) ((i / 8 : Nat) : Int) = u at r2 ⊢
   generalize rd (orG a) ((i % 8 : Nat) : Int) = v at r1 ⊢
   rw [wrap_id (x := u + v) (by omega) (by omega), wrap_id (by omega) (by omega)]
  have w2 : wrap64 ((i / 8 : Nat) : Int) = ((i / 8 : Nat) : Int) := wrap_id (by omega) (by omega)
  have w1 : wrap64 ((i : Int) + 1) = ((i + 1 : Nat) : Int) := by clear w2 w3; exact wrap_id (by omega) (by omega)
  have e := guessV_get mode a l c i hli
  unfold guessAt at e
  by_cases m0 : mode = 0
  ·rw [if_pos m0] at e
   refine Ev.step (f := fun k => (spec_l13Mid.f k a l c).bind fun t => (if ((guessV mode a l c).take i).length < 17592186044416 then (spec_GuessOf.l0 k mode ((guessV mode a l c).take i ++ [t]) (cornG c) ((i + 1 : Nat) : Int) a l c) else (none))) (fun k => ?_) (Ev.bind (smid_ev a l c h) ?_)
   ·simp only [spec_GuessOf.l0]
    rw [if_pos p1, m1, m2, w2, f1, Option.bind_some, f2, Option.bind_some, if_pos m0, w1]
   ·refine Ev.congr (fun k => ?_) h'
    rw [if_pos hlen, ← e, ← List.take_succ_eq_append_getElem hli]
  ·rw [if_neg m0] at e
   by_cases m1' : mode = 1
   ·rw [if_pos m1'] at e
    refine Ev.step (fun k => ?_) h'
    simp only [spec_GuessOf.l0]
    rw [if_pos p1, m1, m2, w2, f1, Option.bind_some, f2, Option.bind_some, if_neg m0, if_pos m1', w1, if_pos hlen, ← e, ← List.take_succ_eq_append_getElem hli]
   ·rw [if_neg m1'] at e
    by_cases m2' : mode = 2
    ·rw [if_pos m2'] at e
     refine Ev.step (fun k => ?_) h'
     simp only [spec_GuessOf.l0]
     rw [if_pos p1, m1, m2, w2, f1, Option.bind_some, f2, Option.bind_some, if_neg m0, if_neg m1', if_pos m2', w1, if_pos hlen, ← e, ← List.take_succ_eq_append_getElem hli]
    ·rw [if_neg m2'] at e
     have hb := brought_ev (rd (orG l) ((i / 8 : Nat) : Int) + rd (orG a) ((i % 8 : Nat) : Int) - cornG c) 0 255
     refine Ev.step (f := fun k => (spec_Brought.f k (rd (orG l) ((i / 8 : Nat) : Int) + rd (orG a) ((i % 8 : Nat) : Int) - cornG c) 0 255).bind fun t => (if ((guessV mode a l c).take i).length < 17592186044416 then (spec_GuessOf.l0 k mode ((guessV mode a l c).take i ++ [t]) (cornG c) ((i + 1 : Nat) : Int) a l c) else (none))) (fun k => ?_) (Ev.bind hb ?_)
     ·simp only [spec_GuessOf.l0]
      rw [if_pos p1, m1, m2, w2, f1, Option.bind_some, f2, Option.bind_some, if_neg m0, if_neg m1', if_neg m2', w1, w3]
     ·refine Ev.congr (fun k => ?_) h'
      rw [if_pos hlen, ← e, ← List.take_succ_eq_append_getElem hli]
theorem sguessof_ev (mode : Int) (a l : List Int) (c : Int) (ha : a.length ≤ 1048576) (hl : l.length ≤ 1048576) : Ev (fun k => spec_GuessOf.f k mode a l c) (guessR mode a l c) := by
 unfold spec_GuessOf.f guessR
 simp only [Option.bind_some, in_eq]
 have hbad : Ev (fun k => spec_GuessOf.j0 k mode [] true a l c) [] := Ev.step (f := fun _ => some []) (fun k => by simp only [spec_GuessOf.j0]; rfl) (Ev.now _)
 refine Ev.bind (sedges_ev a l c (by omega) (by omega)) ?_
 by_cases he : edgesB a l c = true
 ·have h := edgesB_right he
  by_cases hm : 0 ≤ mode ∧ mode ≤ 3
  ·rw [if_pos ⟨he, hm⟩]
   simp only [he, hm, and_self, decide_true, if_true, Bool.not_true]
   have h0 := sguess_loop mode a l c hm h 0 (by omega)
   have h1 : Ev (fun k => spec_GuessOf.j1 k mode [] (cornG c) a l c) (guessV mode a l c) := Ev.step (fun k => by simp only [spec_GuessOf.j1] <;> rfl) h0
   refine Ev.step (fun k => ?_) h1
   simp only [spec_GuessOf.j0, Bool.false_eq_true, if_false]
   unfold cornG
   by_cases c0 : c < 0
   ·rw [if_pos c0, if_pos c0]
   ·rw [if_neg c0, if_neg c0]
  ·rw [if_neg (fun h => hm h.2)]
   simp only [he, hm, decide_false, if_true, Bool.not_false]; exact hbad
 ·rw [if_neg (fun h => he h.1)]
  simp only [he, if_false]; exact hbad
theorem guessR_len (mode : Int) (a l : List Int) (c : Int) : (guessR mode a l c).length ≤ 64 := by
 unfold guessR
 split
 ·rw [guessV_len]; omega
 ·simp
def aboveV (w h : Int) (d : ByteArray) (x y : Int) : List Int := if y > 0 then (List.range 8).map (fun i : Nat => dotv w h d (x + (i : Int)) (y - 1)) else []
def leftV (w h : Int) (d : ByteArray) (x y : Int) : List Int := if x > 0 then (List.range 8).map (fun i : Nat => dotv w h d (x - 1) (y + (i : Int))) else []
def cornV (w h : Int) (d : ByteArray) (x y : Int) : Int := if x > 0 then (if y > 0 then dotv w h d (x - 1) (y - 1) else -1) else -1
theorem above_yes {w h : Int} {d : ByteArray} {x y : Int} (hy : y > 0) : (aboveV w h d x y).length = 8 ∧ ∀ (i : Nat) (hi : i < (aboveV w h d x y).length), (aboveV w h d x y)[i] = dotv w h d (x + (i : Int)) (y - 1) := by
 have e : aboveV w h d x y = (List.range 8).map (fun i : Nat => dotv w h d (x + (i : Int)) (y - 1)) := if_pos hy
 rw [e]
 exact ⟨by simp, fun i hi => by simp⟩
theorem left_yes {w h : Int} {d : ByteArray} {x y : Int} (hx : x > 0) : (leftV w h d x y).length = 8 ∧ ∀ (i : Nat) (hi : i < (leftV w h d x y).length), (leftV w h d x y)[i] = dotv w h d (x - 1) (y + (i : Int)) := by
 have e : leftV w h d x y = (List.range 8).map (fun i : Nat => dotv w h d (x - 1) (y + (i : Int))) := if_pos hx
 rw [e]
 exact ⟨by simp, fun i hi => by simp⟩
theorem above_no {w h : Int} {d : ByteArray} {x y : Int} (hy : ¬ y > 0) : aboveV w h d x y = [] := if_neg hy
theorem left_no {w h : Int} {d : ByteArray} {x y : Int} (hx : ¬ x > 0) : leftV w h d x y = [] := if_neg hx
theorem above_len (w h : Int) (d : ByteArray) (x y : Int) : (aboveV w h d x y).length = 8 ∨ (aboveV w h d x y).length = 0 := by
 by_cases hy : y > 0
 ·exact .inl (above_yes hy).1
 ·rw [above_no hy]; exact .inr rfl
theorem left_len (w h : Int) (d : ByteArray) (x y : Int) : (leftV w h d x y).length = 8 ∨ (leftV w h d x y).length = 0 := by
 by_cases hx : x > 0
 ·exact .inl (left_yes hx).1
 ·rw [left_no hx]; exact .inr rfl
def SqAt (w h x y : Int) : Prop := x % 8 = 0 ∧ y % 8 = 0 ∧ (0 ≤ x ∧ x ≤ w - 8) ∧ (0 ≤ y ∧ y ≤ h - 8)
instance (w h x y : Int) : Decidable (SqAt w h x y) := by unfold SqAt; infer_instance
theorem tmod8 {x : Int} : (Int.tmod x 8 = 0) ↔ x % 8 = 0 := by
 have h1 := Int.dvd_iff_tmod_eq_zero (a := 8) (b := x)
 have h2 := Int.dvd_iff_emod_eq_zero (a := 8) (b := x)
 rw [← h1, ← h2]
def edgesV (w h : Int) (d : ByteArray) (x y : Int) : List Int × List Int × Int × Bool :=
 if PicR w h d ∧ SqAt w h x y then (aboveV w h d x y, leftV w h d x y, cornV w h d x y, true) else ([], [], 0, false)
theorem edgesV_len (w h : Int) (d : ByteArray) (x y : Int) : (edgesV w h d x y).1.length ≤ 8 ∧ (edgesV w h d x y).2.1.length ≤ 8 := by
 unfold edgesV
 have a := above_len w h d x y
 have b := left_len w h d x y
 split
 ·exact ⟨by simp only []; omega, by simp only []; omega⟩
 ·simp
theorem issq_eq (w h : Int) (d : ByteArray) (x y : Int) (hp : PicR w h d) : impl_Pic_isSquare.f w h d x y = some (decide (SqAt w h x y)) := by
 obtain ⟨hw, hh, _⟩ := hp
 unfold impl_Pic_isSquare.f SqAt
 simp only [tmod8, within_eq, Option.bind_some]
 rw [wrap_id (x := w - 8) (by omega) (by omega), wrap_id (x := h - 8) (by omega) (by omega)]
 by_cases c1 : x % 8 = 0
 ·by_cases c2 : y % 8 = 0
  ·by_cases c3 : 0 ≤ x ∧ x ≤ w - 8
   ·simp only [c1, c2, c3, and_self, if_true, decide_true, true_and]
   ·simp only [c1, c2, c3, if_true, decide_false, Bool.false_eq_true, if_false, false_and, and_false]
  ·simp only [c1, c2, if_true, if_false, false_and, and_false, decide_false]
 ·simp only [c1, if_false, false_and, decide_false]
theorem fits_eq (w h : Int) (d : ByteArray) (x y : Int) : spec_l13Fits.f w h d x y = some (decide (PicR w h d ∧ SqAt w h x y)) := by
 unfold spec_l13Fits.f spec_l12Within.f SqAt
 simp only [tmod8, in_eq, pic_some, Option.bind_some]
 by_cases c1 : x % 8 = 0
 ·by_cases c2 : y % 8 = 0
  ·by_cases c3 : PicR w h d
   ·obtain ⟨hw, hh, _⟩ := id c3
    rw [wrap_id (x := w - 8) (by omega) (by omega), wrap_id (x := h - 8) (by omega) (by omega)]
    by_cases c4 : 0 ≤ x ∧ x ≤ w - 8 <;> by_cases c5 : 0 ≤ y ∧ y ≤ h - 8 <;> by_cases d1 : (1 : Int) ≤ 8 ∧ 8 ≤ w <;> by_cases d2 : (1 : Int) ≤ 8 ∧ 8 ≤ h <;>
     simp only [c1, c2, c3, c4, c5, d1, d2, and_self, if_true, decide_true, decide_false, Bool.false_eq_true, if_false, Option.bind_some, true_and, and_true, and_false, false_and]
    all_goals (first | rfl | (exfalso; omega) | (simp; done))
   ·simp only [c1, c2, c3, if_true, false_and, decide_false, Bool.false_eq_true, if_false, Option.bind_some]
  ·simp only [c1, c2, if_true, if_false, false_and, and_false, decide_false]
 ·simp only [c1, if_false, false_and, and_false, decide_false]
theorem edges_loop (w h : Int) (d : ByteArray) (x y : Int) (hp : PicR w h d) (hs : SqAt w h x y) :
  ∀ i : Nat, i ≤ 8 → Ev (fun k => impl_EdgesOf.l0 k x y (i : Int) w h d ((aboveV w h d x y).take i) ((leftV w h d x y).take i) (-1)) (aboveV w h d x y, leftV w h d x y, cornV w h d x y, true) := by
 have ha := above_len w h d x y
 have hl := left_len w h d x y
 obtain ⟨hw, hh, hd⟩ := id hp
 obtain ⟨_, _, hx, hy⟩ := id hs
 have hD : ∀ u v : Int, Ev (fun k => impl_Pic_dot.f w h d u v) (dotv w h d u v) := fun u v => by rw [dot_eq w h d u v hp]; exact Ev.now _
 have hap : ∀ i : Nat, i < 8 → y > 0 → (aboveV w h d x y).take i ++ [dotv w h d (x + (i : Int)) (y - 1)] = (aboveV w h d x y).take (i + 1) := fun i hi c => by
  rw [← (above_yes (w := w) (h := h) (d := d) (x := x) c).2 i (by rw [(above_yes c).1]; exact hi)]; exact (List.take_succ_eq_append_getElem _).symm
 have hlp : ∀ i : Nat, i < 8 → x > 0 → (leftV w h d x y).take i ++ [dotv w h d (x - 1) (y + (i : Int))] = (leftV w h d x y).take (i + 1) := fun i hi c => by
  rw [← (left_yes (w := w) (h := h) (d := d) (y := y) c).2 i (by rw [(left_yes c).1]; exact hi)]; exact (List.take_succ_eq_append_getElem _).symm
 refine down 8 ?_ ?_
 ·rw [List.take_of_length_le (by omega), List.take_of_length_le (by omega)]
  unfold cornV
  by_cases cx : x > 0
  ·by_cases cy : y > 0
   ·refine Ev.step (f := fun k => (impl_Pic_dot.f w h d (x - 1) (y - 1)).bind fun t => some (aboveV w h d x y, leftV w h d x y, t, true)) (fun k => ?_) (Ev.bind (hD _ _) ?_)
    ·simp only [impl_EdgesOf.l0]
     rw [if_neg (by omega), if_pos cx, if_pos cy, wrap_id (x := x - 1) (by omega) (by omega), wrap_id (x := y - 1) (by omega) (by omega)]
    ·rw [if_pos cx, if_pos cy]; exact Ev.now _
   ·rw [if_pos cx, if_neg cy]
    exact Ev.step (f := fun _ => some _) (fun k => by simp only [impl_EdgesOf.l0]; rw [if_neg (by omega), if_pos cx, if_neg cy]) (Ev.now _)
  ·rw [if_neg cx]
   exact Ev.step (f := fun _ => some _) (fun k => by simp only [impl_EdgesOf.l0]; rw [if_neg (by omega), if_neg cx]) (Ev.now _)
 ·intro i hi h'
  have w1 : wrap64 ((i : Int) + 1) = ((i + 1 : Nat) : Int) := wrap_id (by omega) (by omega)
  have l1 : ((aboveV w h d x y).take i).length < 17592186044416 := by simp; omega
  have l2 : ((leftV w h d x y).take i).length < 17592186044416 := by simp; omega
  by_cases cy : y > 0
  ·have e1 := hap i hi cy
   by_cases cx : x > 0
   ·have e2 := hlp i hi cx
    refine Ev.step (f := fun k => (impl_Pic_dot.f w h d (x + (i : Int)) (y - 1)).bind fun t => (if ((aboveV w h d x y).take i).length < 17592186044416 then ((some ((aboveV w h d x y).take i ++ [t] : List Int)).bind fun y123 => ((impl_Pic_dot.f w h d (x - 1) (y + (i : Int))).bind fun t126 => (if ((leftV w h d x y).take i).length < 17592186044416 then (impl_EdgesOf.l0 k x y ((i + 1 : Nat) : Int) w h d y123 ((leftV w h d x y).take i ++ [t126]) (-1)) else (none)))) else (none))) (fun k => ?_) (Ev.bind (hD _ _) ?_)
    ·simp only [impl_EdgesOf.l0]
     rw [if_pos (by omega), if_pos cy, wrap_id (x := x + (i : Int)) (by omega) (by omega), wrap_id (x := y - 1) (by omega) (by omega), wrap_id (x := x - 1) (by omega) (by omega), wrap_id (x := y + (i : Int)) (by omega) (by omega), w1]
     simp only [cx, if_true]
    ·simp only [l1, l2, if_true, Option.bind_some]
     refine Ev.bind (hD _ _) ?_
     rw [e1, e2]; exact h'
   ·rw [left_no cx] at h' l2 ⊢
    refine Ev.step (f := fun k => (impl_Pic_dot.f w h d (x + (i : Int)) (y - 1)).bind fun t => (if ((aboveV w h d x y).take i).length < 17592186044416 then (impl_EdgesOf.l0 k x y ((i + 1 : Nat) : Int) w h d ((aboveV w h d x y).take i ++ [t]) ([].take i) (-1)) else (none))) (fun k => ?_) (Ev.bind (hD _ _) ?_)
    ·simp only [impl_EdgesOf.l0]
     rw [if_pos (by omega), if_pos cy, wrap_id (x := x + (i : Int)) (by omega) (by omega), wrap_id (x := y - 1) (by omega) (by omega), w1]
     simp only [cx, if_false, Option.bind_some]
    ·simp only [l1, if_true]
     rw [e1]; rw [List.take_nil] at h' ⊢; exact h'
  ·rw [above_no cy] at h' l1 ⊢
   by_cases cx : x > 0
   ·have e2 := hlp i hi cx
    refine Ev.step (f := fun k => (impl_Pic_dot.f w h d (x - 1) (y + (i : Int))).bind fun t => (if ((leftV w h d x y).take i).length < 17592186044416 then (impl_EdgesOf.l0 k x y ((i + 1 : Nat) : Int) w h d ([].take i) ((leftV w h d x y).take i ++ [t]) (-1)) else (none))) (fun k => ?_) (Ev.bind (hD _ _) ?_)
    ·simp only [impl_EdgesOf.l0]
     rw [if_pos (by omega), if_neg cy, wrap_id (x := x - 1) (by omega) (by omega), wrap_id (x := y + (i : Int)) (by omega) (by omega), w1]
     simp only [cx, if_true]
    ·simp only [l2, if_true]
     rw [e2]; rw [List.take_nil] at h' ⊢; exact h'
   ·rw [left_no cx] at h' ⊢
    rw [List.take_nil] at h' ⊢
    refine Ev.step (fun k => ?_) h'
    simp only [impl_EdgesOf.l0]
    rw [if_pos (by omega), if_neg cy, if_neg cx, w1]
theorem sedges_loop (w h : Int) (d : ByteArray) (x y : Int) (hp : PicR w h d) (hs : SqAt w h x y) :
  ∀ i : Nat, i ≤ 8 → Ev (fun k => spec_EdgesOf.l0 k x y (i : Int) w h d ((aboveV w h d x y).take i) ((leftV w h d x y).take i) (-1)) (aboveV w h d x y, leftV w h d x y, cornV w h d x y, true) := by
 have ha := above_len w h d x y
 have hl := left_len w h d x y
 obtain ⟨hw, hh, hd⟩ := id hp
 obtain ⟨_, _, hx, hy⟩ := id hs
 have hD : ∀ u v : Int, Ev (fun k => spec_DotAt.f k w h d u v) (dotv w h d u v) := fun u v => by have := sdot_ev w h d u v; rwa [if_pos hp] at this
 have hap : ∀ i : Nat, i < 8 → y > 0 → (aboveV w h d x y).take i ++ [dotv w h d (x + (i : Int)) (y - 1)] = (aboveV w h d x y).take (i + 1) := fun i hi c => by
  rw [← (above_yes (w := w) (h := h) (d := d) (x := x) c).2 i (by rw [(above_yes c).1]; exact hi)]; exact (List.take_succ_eq_append_getElem _).symm
 have hlp : ∀ i : Nat, i < 8 → x > 0 → (leftV w h d x y).take i ++ [dotv w h d (x - 1) (y + (i : Int))] = (leftV w h d x y).take (i + 1) := fun i hi c => by
  rw [← (left_yes (w := w) (h := h) (d := d) (y := y) c).2 i (by rw [(left_yes c).1]; exact hi)]; exact (List.take_succ_eq_append_getElem _).symm
 refine down 8 ?_ ?_
 ·rw [List.take_of_length_le (by omega), List.take_of_length_le (by omega)]
  unfold cornV
  by_cases cx : x > 0
  ·by_cases cy : y > 0
   ·refine Ev.step (f := fun k => (spec_DotAt.f k w h d (x - 1) (y - 1)).bind fun t => some (aboveV w h d x y, leftV w h d x y, t, true)) (fun k => ?_) (Ev.bind (hD _ _) ?_)
    ·simp only [spec_EdgesOf.l0]
     rw [if_neg (by omega), if_pos cx, if_pos cy, wrap_id (x := x - 1) (by omega) (by omega), wrap_id (x := y - 1) (by omega) (by omega)]
    ·rw [if_pos cx, if_pos cy]; exact Ev.now _
   ·rw [if_pos cx, if_neg cy]
    exact Ev.step (f := fun _ => some _) (fun k => by simp only [spec_EdgesOf.l0]; rw [if_neg (by omega), if_pos cx, if_neg cy]) (Ev.now _)
  ·rw [if_neg cx]
   exact Ev.step (f := fun _ => some _) (fun k => by simp only [spec_EdgesOf.l0]; rw [if_neg (by omega), if_neg cx]) (Ev.now _)
 ·intro i hi h'
  have w1 : wrap64 ((i : Int) + 1) = ((i + 1 : Nat) : Int) := wrap_id (by omega) (by omega)
  have l1 : ((aboveV w h d x y).take i).length < 17592186044416 := by simp; omega
  have l2 : ((leftV w h d x y).take i).length < 17592186044416 := by simp; omega
  by_cases cy : y > 0
  ·have e1 := hap i hi cy
   by_cases cx : x > 0
   ·have e2 := hlp i hi cx
    refine Ev.step (f := fun k => (spec_DotAt.f k w h d (x + (i : Int)) (y - 1)).bind fun t => (if ((aboveV w h d x y).take i).length < 17592186044416 then ((some ((aboveV w h d x y).take i ++ [t] : List Int)).bind fun y123 => ((spec_DotAt.f k w h d (x - 1) (y + (i : Int))).bind fun t126 => (if ((leftV w h d x y).take i).length < 17592186044416 then (spec_EdgesOf.l0 k x y ((i + 1 : Nat) : Int) w h d y123 ((leftV w h d x y).take i ++ [t126]) (-1)) else (none)))) else (none))) (fun k => ?_) (Ev.bind (hD _ _) ?_)
    ·simp only [spec_EdgesOf.l0]
     rw [if_pos (by omega), if_pos cy, wrap_id (x := x + (i : Int)) (by omega) (by omega), wrap_id (x := y - 1) (by omega) (by omega), wrap_id (x := x - 1) (by omega) (by omega), wrap_id (x := y + (i : Int)) (by omega) (by omega), w1]
     simp only [cx, if_true]
    ·simp only [l1, l2, if_true, Option.bind_some]
     refine Ev.bind (hD _ _) ?_
     rw [e1, e2]; exact h'
   ·rw [left_no cx] at h' l2 ⊢
    refine Ev.step (f := fun k => (spec_DotAt.f k w h d (x + (i : Int)) (y - 1)).bind fun t => (if ((aboveV w h d x y).take i).length < 17592186044416 then (spec_EdgesOf.l0 k x y ((i + 1 : Nat) : Int) w h d ((aboveV w h d x y).take i ++ [t]) ([].take i) (-1)) else (none))) (fun k => ?_) (Ev.bind (hD _ _) ?_)
    ·simp only [spec_EdgesOf.l0]
     rw [if_pos (by omega), if_pos cy, wrap_id (x := x + (i : Int)) (by omega) (by omega), wrap_id (x := y - 1) (by omega) (by omega), w1]
     simp only [cx, if_false, Option.bind_some]
    ·simp only [l1, if_true]
     rw [e1]; rw [List.take_nil] at h' ⊢; exact h'
  ·rw [above_no cy] at h' l1 ⊢
   by_cases cx : x > 0
   ·have e2 := hlp i hi cx
    refine Ev.step (f := fun k => (spec_DotAt.f k w h d (x - 1) (y + (i : Int))).bind fun t => (if ((leftV w h d x y).take i).length < 17592186044416 then (spec_EdgesOf.l0 k x y ((i + 1 : Nat) : Int) w h d ([].take i) ((leftV w h d x y).take i ++ [t]) (-1)) else (none))) (fun k => ?_) (Ev.bind (hD _ _) ?_)
    ·simp only [spec_EdgesOf.l0]
     rw [if_pos (by omega), if_neg cy, wrap_id (x := x - 1) (by omega) (by omega), wrap_id (x := y + (i : Int)) (by omega) (by omega), w1]
     simp only [cx, if_true]
    ·simp only [l2, if_true]
     rw [e2]; rw [List.take_nil] at h' ⊢; exact h'
   ·rw [left_no cx] at h' ⊢
    rw [List.take_nil] at h' ⊢
    refine Ev.step (fun k => ?_) h'
    simp only [spec_EdgesOf.l0]
    rw [if_pos (by omega), if_neg cy, if_neg cx, w1]
theorem edgesof_ev (w h : Int) (d : ByteArray) (x y : Int) : Ev (fun k => impl_EdgesOf.f k w h d x y) (edgesV w h d x y) := by
 unfold impl_EdgesOf.f edgesV
 simp only [ipic_some, Option.bind_some]
 have hbad : Ev (fun k => impl_EdgesOf.j0 k x y true w h d) ([], [], 0, false) := Ev.step (f := fun _ => some _) (fun k => by simp only [impl_EdgesOf.j0]; rfl) (Ev.now _)
 by_cases c1 : PicR w h d
 ·simp only [c1, decide_true, if_true, issq_eq w h d x y c1, Option.bind_some, true_and]
  by_cases c2 : SqAt w h x y
  ·rw [if_pos c2]
   simp only [c2, decide_true, Bool.not_true]
   refine Ev.step (fun k => by simp only [impl_EdgesOf.j0, Bool.false_eq_true, if_false] <;> rfl) ?_
   exact edges_loop w h d x y c1 c2 0 (by omega)
  ·rw [if_neg c2]
   simp only [c2, decide_false, Bool.not_false]; exact hbad
 ·simp only [c1, decide_false, Bool.false_eq_true, if_false, false_and]; exact hbad
theorem sedgesof_ev (w h : Int) (d : ByteArray) (x y : Int) : Ev (fun k => spec_EdgesOf.f k w h d x y) (edgesV w h d x y) := by
 unfold spec_EdgesOf.f edgesV
 simp only [fits_eq, Option.bind_some]
 by_cases c : PicR w h d ∧ SqAt w h x y
 ·rw [if_pos c]
  simp only [c, and_self, decide_true, if_true]
  exact sedges_loop w h d x y c.1 c.2 0 (by omega)
 ·rw [if_neg c]
  simp only [c, decide_false, Bool.false_eq_true, if_false]; exact Ev.now _
/-- The 64 dots of a block. -/
def blockv (w h : Int) (d : ByteArray) (x y : Int) : List Int := (List.range 64).map fun i => dotv w h d (x + ((i % 8 : Nat) : Int)) (y + ((i / 8 : Nat) : Int))
theorem blockv_len (w h : Int) (d : ByteArray) (x y : Int) : (blockv w h d x y).length = 64 := by simp [blockv]
theorem blockv_get (w h : Int) (d : ByteArray) (x y : Int) (i : Nat) (hi : i < (blockv w h d x y).length) : (blockv w h d x y)[i] = dotv w h d (x + ((i % 8 : Nat) : Int)) (y + ((i / 8 : Nat) : Int)) := by simp [blockv]
theorem block_inner (w h : Int) (d : ByteArray) (x y : Int) (hp : PicR w h d) (hx : -1000000 ≤ x ∧ x ≤ 1000000) (hy : -1000000 ≤ y ∧ y ≤ 1000000) (r : Nat) (hr : r < 8) (R : List Int)
  (hh : Ev (fun k => impl_Pic_block.l0 k x y ((blockv w h d x y).take (8 * (r + 1))) ((r + 1 : Nat) : Int) w h d) R) :
  ∀ c : Nat, c ≤ 8 → Ev (fun k => impl_Pic_block.l1 k x y ((blockv w h d x y).take (8 * r + c)) (r : Int) (r : Int) (c : Int) w h d) R := by
 have hl := blockv_len w h d x y
 refine down 8 ?_ ?_
 ·refine Ev.step (fun k => ?_) hh
  simp only [impl_Pic_block.l1]
  rw [if_neg (by omega), wrap_id (by omega) (by omega), cast1]; rfl
 ·intro c hc h'
  refine Ev.step (fun k => ?_) h'
  have e := blockv_get w h d x y (8 * r + c) (by omega)
  have m1 : (8 * r + c) % 8 = c := by omega
  have m2 : (8 * r + c) / 8 = r := by omega
  rw [m1, m2] at e
  simp only [impl_Pic_block.l1]
  rw [if_pos (by omega), wrap_id (x := x + (c : Int)) (by omega) (by omega), wrap_id (x := y + (r : Int)) (by omega) (by omega), dot_eq w h d _ _ hp, Option.bind_some, if_pos (by simp; omega), ← e, ← List.take_succ_eq_append_getElem (by omega), wrap_id (by omega) (by omega), cast1]; rfl
theorem block_ev (w h : Int) (d : ByteArray) (x y : Int) (hp : PicR w h d) (hx : -1000000 ≤ x ∧ x ≤ 1000000) (hy : -1000000 ≤ y ∧ y ≤ 1000000) : Ev (fun k => impl_Pic_block.f k w h d x y) (blockv w h d x y) := by
 have hl := blockv_len w h d x y
 have H : ∀ r : Nat, r ≤ 8 → Ev (fun k => impl_Pic_block.l0 k x y ((blockv w h d x y).take (8 * r)) (r : Int) w h d) (blockv w h d x y) := by
  refine down 8 ?_ ?_
  ·refine Ev.step (f := fun _ => some (blockv w h d x y)) (fun k => ?_) (Ev.now _)
   simp only [impl_Pic_block.l0]
   rw [if_neg (by omega), List.take_of_length_le (by omega)]
  ·intro r hr h'
   refine Ev.step (fun k => ?_) (block_inner w h d x y hp hx hy r hr _ h' 0 (by omega))
   simp only [impl_Pic_block.l0]
   rw [if_pos (by omega)]; rfl
 have h0 := H 0 (by omega)
 unfold impl_Pic_block.f
 refine Ev.congr (fun k => ?_) h0
 rw [if_pos (by decide)]; rfl
def BlOk (w h : Int) (d : ByteArray) (x y : Int) : Prop := PicR w h d ∧ (-1000 ≤ x ∧ x ≤ 1000) ∧ (-1000 ≤ y ∧ y ≤ 1000)
instance (w h : Int) (d : ByteArray) (x y : Int) : Decidable (BlOk w h d x y) := by unfold BlOk; infer_instance
theorem sblock_loop (w h : Int) (d : ByteArray) (x y : Int) (hp : PicR w h d) (hx : -1000000 ≤ x ∧ x ≤ 1000000) (hy : -1000000 ≤ y ∧ y ≤ 1000000) :
  ∀ i : Nat, i ≤ 64 → Ev (fun k => spec_BlockOf.l0 k x y ((blockv w h d x y).take i) (i : Int) w h d) (blockv w h d x y) := by
 have hl := blockv_len w h d x y
 refine down 64 ?_ ?_
 ·refine Ev.step (f := fun _ => some (blockv w h d x y)) (fun k => ?_) (Ev.now _)
  simp only [spec_BlockOf.l0]
  rw [if_neg (by omega), List.take_of_length_le (by omega)]
 ·intro i hi h'
  have e := blockv_get w h d x y i (by omega)
  have m1 : Int.tmod (i : Int) 8 = ((i % 8 : Nat) : Int) := by rw [Int.tmod_eq_emod_of_nonneg (by omega)]; omega
  have m2 : Int.tdiv (i : Int) 8 = ((i / 8 : Nat) : Int) := by rw [Int.tdiv_eq_ediv_of_nonneg (by omega)]; omega
  have hs := sdot_ev w h d (x + ((i % 8 : Nat) : Int)) (y + ((i / 8 : Nat) : Int))
  rw [if_pos hp, ← e] at hs
  refine Ev.step (f := fun k => (spec_DotAt.f k w h d (x + ((i % 8 : Nat) : Int)) (y + ((i / 8 : Nat) : Int))).bind fun t => (if ((blockv w h d x y).take i).length < 17592186044416 then (spec_BlockOf.l0 k x y ((blockv w h d x y).take i ++ [t]) ((i + 1 : Nat) : Int) w h d) else (none))) (fun k => ?_) (Ev.bind hs ?_)
  ·simp only [spec_BlockOf.l0]
   rw [if_pos (by omega), m1, m2, wrap_id (x := ((i / 8 : Nat) : Int)) (by omega) (by omega), wrap_id (x := x + ((i % 8 : Nat) : Int)) (by omega) (by omega), wrap_id (x := y + ((i / 8 : Nat) : Int)) (by omega) (by omega), wrap_id (x := (i : Int) + 1) (by omega) (by omega), cast1]
  ·refine Ev.congr (fun k => ?_) h'
   rw [if_pos (by simp; omega), ← List.take_succ_eq_append_getElem (by omega)]
theorem sblockof_ev (w h : Int) (d : ByteArray) (x y : Int) : Ev (fun k => spec_BlockOf.f k w h d x y) (if BlOk w h d x y then blockv w h d x y else []) := by
 unfold spec_BlockOf.f
 simp only [pic_some, in_eq, Option.bind_some]
 have hbad : Ev (fun k => spec_BlockOf.j0 k x y [] true w h d) [] := Ev.step (f := fun _ => some []) (fun k => by simp only [spec_BlockOf.j0]; rfl) (Ev.now _)
 by_cases c1 : PicR w h d
 ·by_cases c2 : -1000 ≤ x ∧ x ≤ 1000
  ·by_cases c3 : -1000 ≤ y ∧ y ≤ 1000
   ·rw [if_pos ⟨c1, c2, c3⟩]
    simp only [c1, c2, c3, and_self, decide_true, if_true, Bool.not_true]
    exact Ev.step (fun k => by simp only [spec_BlockOf.j0, Bool.false_eq_true, if_false]; rfl) (sblock_loop w h d x y c1 (by omega) (by omega) 0 (by omega))
   ·rw [if_neg (fun h => c3 h.2.2)]
    simp only [c1, c2, c3, and_self, decide_true, decide_false, if_true, Bool.not_false]; exact hbad
  ·rw [if_neg (fun h => c2 h.2.1)]
   simp only [c1, c2, decide_true, decide_false, if_true, Bool.false_eq_true, if_false]; exact hbad
 ·rw [if_neg (fun h => c1 h.1)]
  simp only [c1, decide_false, Bool.false_eq_true, if_false]; exact hbad
theorem len_decs (l : List Int) (n : Nat) (m : Int) (h : m = (n : Int)) : decide ((l.length : Int) = m) = decide (l.length = n) := by rw [decide_eq_decide]; omega
def levB (l : List Int) : Bool := decide (l.length = 64) && allB (-5000) 5000 l
/-- What a right square is. -/
def sqB (kd mode dx dy : Int) (l : List Int) : Bool :=
 if kd = 0 then decide (mode = 0) && (decide (dx = 0) && (decide (dy = 0) && decide (l.length = 0)))
 else if kd = 1 then decide (mode = 0) && (decide (-16 ≤ dx ∧ dx ≤ 16) && (decide (-16 ≤ dy ∧ dy ≤ 16) && levB l))
 else if kd = 2 then decide (0 ≤ mode ∧ mode ≤ 3) && (decide (dx = 0) && (decide (dy = 0) && levB l))
 else false
theorem levels_ev (l : List Int) (hl : l.length ≤ 17592186043904) : Ev (fun k => impl_areLevels.f k l) (levB l) := by
 unfold impl_areLevels.f levB
 have h := areIn_ev l 64 (-5000) 5000 hl
 rw [len_decs l 64 64 rfl] at h
 exact Ev.bind h (Ev.now _)
theorem slevels_ev (l : List Int) (hl : l.length ≤ 17592186043904) : Ev (fun k => spec_l09All.f k l 64 5000) (levB l) := by
 unfold levB
 have h := all_ev l 64 5000 hl (by omega) (by omega)
 rwa [len_decs l 64 64 rfl] at h
theorem len0 (l : List Int) : ((l.length : Int) == 0) = decide (l.length = 0) := by
 rw [Bool.eq_iff_iff, beq_iff_eq, decide_eq_true_eq]; omega
theorem sqok_ev (kd mode dx dy : Int) (l : List Int) (hl : l.length ≤ 17592186043904) : Ev (fun k => impl_SquareOk.f k kd mode dx dy l) (sqB kd mode dx dy l) := by
 have hL := levels_ev l hl
 unfold impl_SquareOk.f sqB
 simp only [within_eq, Option.bind_some, len0]
 by_cases k0 : kd = 0
 ·simp only [if_pos k0]
  by_cases a : mode = 0 <;> by_cases b : dx = 0 <;> by_cases c : dy = 0 <;> simp only [a, b, c, if_true, if_false, decide_true, decide_false, Bool.true_and, Bool.false_and] <;> exact Ev.now _
 ·by_cases k1 : kd = 1
  ·simp only [if_neg k0, if_pos k1]
   by_cases a : mode = 0
   ·by_cases b : -16 ≤ dx ∧ dx ≤ 16
    ·by_cases c : -16 ≤ dy ∧ dy ≤ 16
     ·simp only [a, b, c, and_self, if_true, decide_true, Bool.true_and]
      exact Ev.bind hL (Ev.now _)
     ·simp only [a, b, c, and_self, if_true, decide_true, decide_false, Bool.true_and, Bool.false_and, Bool.false_eq_true, if_false]; exact Ev.now _
    ·simp only [a, b, if_true, decide_true, decide_false, Bool.true_and, Bool.false_and, Bool.false_eq_true, if_false]; exact Ev.now _
   ·simp only [a, decide_false, Bool.false_and, if_false]; exact Ev.now _
  ·by_cases k2 : kd = 2
   ·simp only [if_neg k0, if_neg k1, if_pos k2]
    by_cases a : 0 ≤ mode ∧ mode ≤ 3
    ·by_cases b : dx = 0
     ·by_cases c : dy = 0
      ·simp only [a, b, c, and_self, if_true, decide_true, Bool.true_and]
       exact Ev.bind hL (Ev.now _)
      ·simp only [a, b, c, and_self, if_true, decide_true, decide_false, Bool.true_and, Bool.false_and, Bool.false_eq_true, if_false]; exact Ev.now _
     ·simp only [a, b, and_self, if_true, decide_true, decide_false, Bool.true_and, Bool.false_and, Bool.false_eq_true, if_false]; exact Ev.now _
    ·simp only [a, decide_false, Bool.false_and, Bool.false_eq_true, if_false]; exact Ev.now _
   ·simp only [if_neg k0, if_neg k1, if_neg k2]; exact Ev.now _
theorem ssqok_ev (kd mode dx dy : Int) (l : List Int) (hl : l.length ≤ 17592186043904) : Ev (fun k => spec_SquareOk.f k kd mode dx dy l) (sqB kd mode dx dy l) := by
 have hL := slevels_ev l hl
 unfold spec_SquareOk.f sqB
 simp only [in_eq, Option.bind_some, len0]
 by_cases k0 : kd = 0
 ·simp only [if_pos k0]
  by_cases a : mode = 0 <;> by_cases b : dx = 0 <;> by_cases c : dy = 0 <;> simp only [a, b, c, if_true, if_false, decide_true, decide_false, Bool.true_and, Bool.false_and] <;> exact Ev.now _
 ·by_cases k1 : kd = 1
  ·simp only [if_neg k0, if_pos k1]
   by_cases a : mode = 0
   ·by_cases b : -16 ≤ dx ∧ dx ≤ 16
    ·by_cases c : -16 ≤ dy ∧ dy ≤ 16
     ·simp only [a, b, c, and_self, if_true, decide_true, Bool.true_and]
      exact Ev.bind hL (Ev.now _)
     ·simp only [a, b, c, and_self, if_true, decide_true, decide_false, Bool.true_and, Bool.false_and, Bool.false_eq_true, if_false]; exact Ev.now _
    ·simp only [a, b, if_true, decide_true, decide_false, Bool.true_and, Bool.false_and, Bool.false_eq_true, if_false]; exact Ev.now _
   ·simp only [a, decide_false, Bool.false_and, if_false]; exact Ev.now _
  ·by_cases k2 : kd = 2
   ·simp only [if_neg k0, if_neg k1, if_pos k2]
    by_cases a : 0 ≤ mode ∧ mode ≤ 3
    ·by_cases b : dx = 0
     ·by_cases c : dy = 0
      ·simp only [a, b, c, and_self, if_true, decide_true, Bool.true_and]
       exact Ev.bind hL (Ev.now _)
      ·simp only [a, b, c, and_self, if_true, decide_true, decide_false, Bool.true_and, Bool.false_and, Bool.false_eq_true, if_false]; exact Ev.now _
     ·simp only [a, b, and_self, if_true, decide_true, decide_false, Bool.true_and, Bool.false_and, Bool.false_eq_true, if_false]; exact Ev.now _
    ·simp only [a, decide_false, Bool.false_and, Bool.false_eq_true, if_false]; exact Ev.now _
   ·simp only [if_neg k0, if_neg k1, if_neg k2]; exact Ev.now _
theorem szInts_eq' (l : List Int) (a : Int) (hl : l.length ≤ maxLen) (h0 : 0 ≤ a) (h1 : a ≤ 1048576) : ∃ r, laws_szIntS.f l a = some r ∧ (r = -1 ∨ (r = a - (l.length : Int) ∧ 0 ≤ r)) := by
 unfold maxLen at hl
 unfold laws_szIntS.f
 rw [wrap_id (by omega) (by omega)]
 by_cases c : a - (l.length : Int) < 0
 ·rw [if_pos c]; exact ⟨_, rfl, .inl rfl⟩
 ·rw [if_neg c]; exact ⟨_, rfl, .inr ⟨rfl, by omega⟩⟩
theorem szSquare_eq (kd mode dx dy : Int) (l : List Int) (s : Int) (hl : l.length ≤ maxLen) (h0 : 0 ≤ s) (h1 : s ≤ 1048576) : ∃ r, laws_szSquare.f kd mode dx dy l s = some r ∧ (r < 0 ∨ (l.length ≤ 1048576 ∧ 0 ≤ r ∧ r ≤ s)) := by
 unfold laws_szSquare.f
 obtain ⟨r, e, hr⟩ := szInts_eq' l s hl h0 h1
 rw [e, Option.bind_some]
 by_cases c : r < 0
 ·rw [if_pos c]; exact ⟨_, rfl, .inl (by omega)⟩
 ·rw [if_neg c]; exact ⟨_, rfl, .inr (by omega)⟩
theorem toSquare_ev (kd mode dx dy : Int) (l : List Int) (hl : l.length ≤ 17592186043904) : Ev (fun k => laws_toSquare.f k kd mode dx dy l) (kd, mode, dx, dy, l) := by
 unfold laws_toSquare.f
 exact Ev.bind (toInts_ev l hl) (Ev.now _)
theorem eqSquare_self (kd mode dx dy : Int) (l : List Int) (hl : l.length ≤ 17592186043904) : Ev (fun k => laws_eqSquare.f k kd mode dx dy l kd mode dx dy l) true := by
 unfold laws_eqSquare.f
 simp only [if_true]
 refine Ev.bind (eqInts_ev l l hl) ?_
 simp only [decide_true, if_true]
 exact Ev.now _
def jv (g d : List Int) : List Int := if JOk g d then joinv g d else []
/-- The dots of a square whose arguments are right. -/
def sdG (W H : Int) (D : ByteArray) (w h : Int) (d : ByteArray) (left top : Int) (q : Int) (large ex : Bool) (x y kd mode dx dy : Int) (l : List Int) : List Int :=
 if kd = 0 then blockv w h d (left + x) (top + y)
 else if kd = 1 then jv (blockv w h d (left + x + dx) (top + y + dy)) (lbN l q large ex).1
 else jv (guessR mode (edgesV W H D x y).1 (edgesV W H D x y).2.1 (edgesV W H D x y).2.2.1) (lbN l q large ex).1
theorem jv_len (g d : List Int) : (jv g d).length ≤ 64 := jout_len g d
theorem sdG_len (W H : Int) (D : ByteArray) (w h : Int) (d : ByteArray) (left top : Int) (q : Int) (large ex : Bool) (x y kd mode dx dy : Int) (l : List Int) : (sdG W H D w h d left top q large ex x y kd mode dx dy l).length ≤ 64 := by
 unfold sdG
 split
 ·rw [blockv_len]; exact Nat.le_refl _
 ·split <;> exact jv_len _ _
structure SdOk (W H : Int) (D : ByteArray) (w h : Int) (d : ByteArray) (left top : Int) (key : Bool) (q : Int) (large ex : Bool) (x y kd mode dx dy : Int) (l : List Int) : Prop where
 now : PicR W H D
 at_ : SqAt W H x y
 left_ : 0 ≤ left ∧ left ≤ 256
 top_ : 0 ≤ top ∧ top ≤ 256
 sq : sqB kd mode dx dy l = true
 cond : condB q large ex = true
 let_ : key = true → kd = 2
 ref : kd ≠ 2 → PicR w h d
open Classical in
noncomputable def sdV (W H : Int) (D : ByteArray) (w h : Int) (d : ByteArray) (left top : Int) (key : Bool) (q : Int) (large ex : Bool) (x y kd mode dx dy : Int) (l : List Int) : List Int × Bool :=
 if SdOk W H D w h d left top key q large ex x y kd mode dx dy l then (sdG W H D w h d left top q large ex x y kd mode dx dy l, true) else ([], false)
open Classical in
theorem sdV_len (W H : Int) (D : ByteArray) (w h : Int) (d : ByteArray) (left top : Int) (key : Bool) (q : Int) (large ex : Bool) (x y kd mode dx dy : Int) (l : List Int) : (sdV W H D w h d left top key q large ex x y kd mode dx dy l).1.length ≤ 64 := by
 unfold sdV
 split
 ·exact sdG_len _ _ _ _ _ _ _ _ _ _ _ _ _ _ _ _ _ _
 ·simp
theorem sqB_kinds {kd mode dx dy : Int} {l : List Int} (h : sqB kd mode dx dy l = true) : (kd = 0 ∧ dx = 0 ∧ dy = 0) ∨ (kd = 1 ∧ (-16 ≤ dx ∧ dx ≤ 16) ∧ (-16 ≤ dy ∧ dy ≤ 16)) ∨ (kd = 2 ∧ 0 ≤ mode ∧ mode ≤ 3) := by
 unfold sqB at h
 by_cases k0 : kd = 0
 ·rw [if_pos k0] at h
  simp only [Bool.and_eq_true, decide_eq_true_eq] at h
  exact Or.inl ⟨k0, h.2.1, h.2.2.1⟩
 ·rw [if_neg k0] at h
  by_cases k1 : kd = 1
  ·rw [if_pos k1] at h
   simp only [Bool.and_eq_true, decide_eq_true_eq] at h
   exact Or.inr (Or.inl ⟨k1, h.2.1, h.2.2.1⟩)
  ·rw [if_neg k1] at h
   by_cases k2 : kd = 2
   ·rw [if_pos k2] at h
    simp only [Bool.and_eq_true, decide_eq_true_eq] at h
    exact Or.inr (Or.inr ⟨k2, h.1⟩)
   ·rw [if_neg k2] at h; cases h
theorem sqat_in {W H x y : Int} {D : ByteArray} (hp : PicR W H D) (hs : SqAt W H x y) : (0 ≤ x ∧ x ≤ 248) ∧ (0 ≤ y ∧ y ≤ 248) := by
 obtain ⟨h1, h2, _⟩ := hp
 obtain ⟨_, _, h3, h4⟩ := hs
 omega
theorem sd_wraps {left top x y dx dy : Int} (hl : 0 ≤ left ∧ left ≤ 256) (ht : 0 ≤ top ∧ top ≤ 256) (hx : 0 ≤ x ∧ x ≤ 248) (hy : 0 ≤ y ∧ y ≤ 248) (hdx : -16 ≤ dx ∧ dx ≤ 16) (hdy : -16 ≤ dy ∧ dy ≤ 16) :
  wrap64 (left + x) = left + x ∧ wrap64 (top + y) = top + y ∧ wrap64 (left + x + dx) = left + x + dx ∧ wrap64 (top + y + dy) = top + y + dy :=
 ⟨wrap_id (by omega) (by omega), wrap_id (by omega) (by omega), wrap_id (by omega) (by omega), wrap_id (by omega) (by omega)⟩
theorem isd_good (W H : Int) (D : ByteArray) (w h : Int) (d : ByteArray) (left top : Int) (key : Bool) (q : Int) (large ex : Bool) (x y kd mode dx dy : Int) (l : List Int) (hl : l.length ≤ 1048576) (o : SdOk W H D w h d left top key q large ex x y kd mode dx dy l) :
  Ev (fun k => impl_SquareDots.j0 k left top x y false W H D w h d key q large ex kd mode dx dy l) (sdG W H D w h d left top q large ex x y kd mode dx dy l, true) := by
 obtain ⟨hx, hy⟩ := sqat_in o.now o.at_
 have eb := levelsback_ev l (by omega) key q large ex
 have hbl := lbN_len l q large ex
 rcases sqB_kinds o.sq with ⟨k0, _, _⟩ | ⟨k1, hdx, hdy⟩ | ⟨k2, _⟩
 ·obtain ⟨w1, w2, _, _⟩ := sd_wraps o.left_ o.top_ hx hy (dx := 0) (dy := 0) (by omega) (by omega)
  have hp := o.ref (by omega)
  have el := o.left_
  have et := o.top_
  have e := block_ev w h d (left + x) (top + y) hp (by omega) (by omega)
  have ev : sdG W H D w h d left top q large ex x y kd mode dx dy l = blockv w h d (left + x) (top + y) := if_pos k0
  rw [ev]
  refine Ev.step (fun k => by simp only [impl_SquareDots.j0, w1, w2]; rw [if_neg (show ¬ (false = true) by decide), if_pos k0]) ?_
  exact Ev.bind e (Ev.now _)
 ·obtain ⟨w1, w2, w3, w4⟩ := sd_wraps o.left_ o.top_ hx hy hdx hdy
  have hp := o.ref (by omega)
  have el := o.left_
  have et := o.top_
  have n0 : ¬ kd = 0 := by omega
  have e := block_ev w h d (left + x + dx) (top + y + dy) hp (by omega) (by omega)
  have ej := joined_ev (blockv w h d (left + x + dx) (top + y + dy)) (lbN l q large ex).1 (by rw [blockv_len]; omega) (by omega)
  have ev : sdG W H D w h d left top q large ex x y kd mode dx dy l = jv (blockv w h d (left + x + dx) (top + y + dy)) (lbN l q large ex).1 := by unfold sdG; rw [if_neg n0, if_pos k1]
  rw [ev]
  refine Ev.step (fun k => by simp only [impl_SquareDots.j0, w1, w2, w3, w4]; rw [if_neg (show ¬ (false = true) by decide), if_neg n0]) (Ev.bind eb ?_)
  simp only [k1, if_true]
  exact Ev.bind e (Ev.bind ej (Ev.now _))
 ·have n0 : ¬ kd = 0 := by omega
  have n1 : ¬ kd = 1 := by omega
  have ee := edgesof_ev W H D x y
  have hel := edgesV_len W H D x y
  have eg := guessof_ev mode (edgesV W H D x y).1 (edgesV W H D x y).2.1 (edgesV W H D x y).2.2.1 (by omega) (by omega)
  have ej := joined_ev (guessR mode (edgesV W H D x y).1 (edgesV W H D x y).2.1 (edgesV W H D x y).2.2.1) (lbN l q large ex).1 (by have := guessR_len mode (edgesV W H D x y).1 (edgesV W H D x y).2.1 (edgesV W H D x y).2.2.1; omega) (by omega)
  have ev : sdG W H D w h d left top q large ex x y kd mode dx dy l = jv (guessR mode (edgesV W H D x y).1 (edgesV W H D x y).2.1 (edgesV W H D x y).2.2.1) (lbN l q large ex).1 := by unfold sdG; rw [if_neg n0, if_neg n1]
  rw [ev]
  refine Ev.step (fun k => by simp only [impl_SquareDots.j0]; rw [if_neg (show ¬ (false = true) by decide), if_neg n0]) (Ev.bind eb ?_)
  simp only [n1, if_false]
  exact Ev.bind ee (Ev.bind eg (Ev.bind ej (Ev.now _)))
theorem isd_bad (W H : Int) (D : ByteArray) (w h : Int) (d : ByteArray) (left top : Int) (key : Bool) (q : Int) (large ex : Bool) (x y kd mode dx dy : Int) (l : List Int) :
  Ev (fun k => impl_SquareDots.j0 k left top x y true W H D w h d key q large ex kd mode dx dy l) ([], false) := Ev.step (f := fun _ => some ([], false)) (fun k => by simp only [impl_SquareDots.j0]; rfl) (Ev.now _)
open Classical in
theorem isd_ev (W H : Int) (D : ByteArray) (w h : Int) (d : ByteArray) (left top : Int) (key : Bool) (q : Int) (large ex : Bool) (x y kd mode dx dy : Int) (l : List Int) (hl : l.length ≤ 1048576) :
  Ev (fun k => impl_SquareDots.f k W H D w h d left top key q large ex x y kd mode dx dy l) (sdV W H D w h d left top key q large ex x y kd mode dx dy l) := by
 have hbad := isd_bad W H D w h d left top key q large ex x y kd mode dx dy l
 have hno : ∀ (_ : ¬ SdOk W H D w h d left top key q large ex x y kd mode dx dy l), Ev (fun k => impl_SquareDots.j0 k left top x y true W H D w h d key q large ex kd mode dx dy l) (sdV W H D w h d left top key q large ex x y kd mode dx dy l) := by
  intro hn
  unfold sdV
  rw [if_neg hn]
  exact hbad
 unfold impl_SquareDots.f
 simp only [ipic_some, Option.bind_some, within_eq, cond_val]
 by_cases c1 : PicR W H D
 ·simp only [decide_eq_true c1, if_true, issq_eq W H D x y c1, Option.bind_some]
  by_cases c2 : SqAt W H x y
  ·simp only [decide_eq_true c2, if_true]
   by_cases c3 : 0 ≤ left ∧ left ≤ 256
   ·simp only [decide_eq_true c3, if_true]
    by_cases c4 : 0 ≤ top ∧ top ≤ 256
    ·simp only [decide_eq_true c4, if_true]
     refine Ev.bind (sqok_ev kd mode dx dy l (by omega)) ?_
     cases c5 : sqB kd mode dx dy l with
     | false => simp only [Bool.false_eq_true, if_false]; exact hno (fun o => by have := o.sq; rw [c5] at this; cases this)
     | true =>
      simp only [if_true]
      cases c6 : condB q large ex with
      | false => simp only [Bool.false_eq_true, if_false]; exact hno (fun o => by have := o.cond; rw [c6] at this; cases this)
      | true =>
       simp only [if_true, impl_Square_let.f]
       by_cases c7 : key = true → kd = 2
       ·have e7 : (if key = true then some (kd == 2) else some true) = some true := by
         cases key with
         | false => rfl
         | true => rw [if_pos rfl, c7 rfl]; rfl
        rw [e7]
        simp only [Option.bind_some, if_true]
        by_cases c8 : kd = 2
        ·have o : SdOk W H D w h d left top key q large ex x y kd mode dx dy l := ⟨c1, c2, c3, c4, c5, c6, c7, fun hn => absurd c8 hn⟩
         simp only [c8, if_true]
         unfold sdV
         rw [if_pos (by rw [c8] at o; exact o)]
         exact isd_good _ _ _ _ _ _ _ _ _ _ _ _ _ _ _ _ _ _ _ hl (by rw [c8] at o; exact o)
        ·simp only [c8, if_false]
         by_cases c9 : PicR w h d
         ·have o : SdOk W H D w h d left top key q large ex x y kd mode dx dy l := ⟨c1, c2, c3, c4, c5, c6, c7, fun _ => c9⟩
          simp only [decide_eq_true c9, Bool.not_true]
          unfold sdV
          rw [if_pos o]
          exact isd_good _ _ _ _ _ _ _ _ _ _ _ _ _ _ _ _ _ _ _ hl o
         ·simp only [decide_eq_false c9, Bool.not_false]
          exact hno (fun o => c9 (o.ref c8))
       ·have hk : key = true := Classical.byContradiction (fun hn => c7 (fun hk => absurd hk hn))
        have hd : ¬ kd = 2 := fun he => c7 (fun _ => he)
        have e7 : (if key = true then some (kd == 2) else some true) = some false := by rw [if_pos hk]; congr 1; exact beq_eq_false_iff_ne.mpr hd
        rw [e7]
        simp only [Option.bind_some, Bool.false_eq_true, if_false]
        exact hno (fun o => c7 o.let_)
    ·simp only [decide_eq_false c4, Bool.false_eq_true, if_false]; exact hno (fun o => c4 o.top_)
   ·simp only [decide_eq_false c3, Bool.false_eq_true, if_false]; exact hno (fun o => c3 o.left_)
  ·simp only [decide_eq_false c2, Bool.false_eq_true, if_false]; exact hno (fun o => c2 o.at_)
 ·simp only [decide_eq_false c1, Bool.false_eq_true, if_false]; exact hno (fun o => c1 o.now)
theorem ssd_bad (left top x y : Int) (W H : Int) (D : ByteArray) (w h : Int) (d : ByteArray) (key : Bool) (q : Int) (large ex : Bool) (kd mode dx dy : Int) (l : List Int) :
  Ev (fun k => spec_SquareDots.j0 k left top x y true W H D w h d key q large ex kd mode dx dy l) ([], false) := Ev.step (f := fun _ => some ([], false)) (fun k => by simp only [spec_SquareDots.j0]; rfl) (Ev.now _)
theorem ssd_bad1 (left top x y : Int) (w h : Int) (d : ByteArray) (key : Bool) (q : Int) (large ex : Bool) (kd mode dx dy : Int) (l : List Int) :
  Ev (fun k => spec_SquareDots.j1 k left top x y true w h d key q large ex kd mode dx dy l) ([], false) := Ev.step (f := fun _ => some ([], false)) (fun k => by simp only [spec_SquareDots.j1]; rfl) (Ev.now _)
theorem ssd_guess (W H : Int) (D : ByteArray) (w h : Int) (d : ByteArray) (left top : Int) (key : Bool) (q : Int) (large ex : Bool) (x y mode dx dy : Int) (l : List Int) (hl : l.length ≤ 1048576) :
  Ev (fun k => spec_SquareDots.j0 k left top x y false W H D w h d key q large ex 2 mode dx dy l) (sdG W H D w h d left top q large ex x y 2 mode dx dy l, true) := by
 have eb := slevelsback_ev l (by omega) key q large ex
 have hbl := lbN_len l q large ex
 have ee := sedgesof_ev W H D x y
 have hel := edgesV_len W H D x y
 have eg := sguessof_ev mode (edgesV W H D x y).1 (edgesV W H D x y).2.1 (edgesV W H D x y).2.2.1 (by omega) (by omega)
 have ej := sjoined_ev (guessR mode (edgesV W H D x y).1 (edgesV W H D x y).2.1 (edgesV W H D x y).2.2.1) (lbN l q large ex).1 (by have := guessR_len mode (edgesV W H D x y).1 (edgesV W H D x y).2.1 (edgesV W H D x y).2.2.1; omega) (by omega)
 have ev : sdG W H D w h d left top q large ex x y 2 mode dx dy l = jv (guessR mode (edgesV W H D x y).1 (edgesV W H D x y).2.1 (edgesV W H D x y).2.2.1) (lbN l q large ex).1 := by unfold sdG; rw [if_neg (by decide), if_neg (by decide)]
 rw [ev]
 refine Ev.step (fun k => by simp only [spec_SquareDots.j0, Bool.false_eq_true, if_false, if_true]; rfl) (Ev.bind ee ?_)
 exact Ev.bind eb (Ev.bind eg (Ev.bind ej (Ev.now _)))
theorem ssd_block (W H : Int) (D : ByteArray) (w h : Int) (d : ByteArray) (left top : Int) (key : Bool) (q : Int) (large ex : Bool) (x y kd mode dx dy : Int) (l : List Int) (hl : l.length ≤ 1048576) (h2 : ¬ kd = 2) (o : SdOk W H D w h d left top key q large ex x y kd mode dx dy l) :
  Ev (fun k => spec_SquareDots.j1 k left top x y false w h d key q large ex kd mode dx dy l) (sdG W H D w h d left top q large ex x y kd mode dx dy l, true) := by
 obtain ⟨hx, hy⟩ := sqat_in o.now o.at_
 have eb := slevelsback_ev l (by omega) key q large ex
 have hbl := lbN_len l q large ex
 have hp := o.ref h2
 have el := o.left_
 have et := o.top_
 rcases sqB_kinds o.sq with ⟨k0, hdx, hdy⟩ | ⟨k1, hdx, hdy⟩ | ⟨k2, _⟩
 ·obtain ⟨w1, w2, _, _⟩ := sd_wraps o.left_ o.top_ hx hy (dx := 0) (dy := 0) (by omega) (by omega)
  subst hdx
  subst hdy
  have e := sblockof_ev w h d (left + x) (top + y)
  rw [if_pos (show BlOk w h d (left + x) (top + y) from ⟨hp, by omega, by omega⟩)] at e
  have ev : sdG W H D w h d left top q large ex x y kd mode 0 0 l = blockv w h d (left + x) (top + y) := if_pos k0
  rw [ev]
  refine Ev.step (fun k => by simp only [spec_SquareDots.j1, w1, w2, Int.add_zero]; rw [if_neg (show ¬ (false = true) by decide)]) (Ev.bind e ?_)
  simp only [k0, if_true]
  exact Ev.now _
 ·obtain ⟨w1, w2, w3, w4⟩ := sd_wraps o.left_ o.top_ hx hy hdx hdy
  have n0 : ¬ kd = 0 := by omega
  have e := sblockof_ev w h d (left + x + dx) (top + y + dy)
  rw [if_pos (show BlOk w h d (left + x + dx) (top + y + dy) from ⟨hp, by omega, by omega⟩)] at e
  have ej := sjoined_ev (blockv w h d (left + x + dx) (top + y + dy)) (lbN l q large ex).1 (by rw [blockv_len]; omega) (by omega)
  have ev : sdG W H D w h d left top q large ex x y kd mode dx dy l = jv (blockv w h d (left + x + dx) (top + y + dy)) (lbN l q large ex).1 := by unfold sdG; rw [if_neg n0, if_pos k1]
  rw [ev]
  refine Ev.step (fun k => by simp only [spec_SquareDots.j1, w1, w2, w3, w4]; rw [if_neg (show ¬ (false = true) by decide)]) (Ev.bind e ?_)
  simp only [n0, if_false]
  exact Ev.bind eb (Ev.bind ej (Ev.now _))
 ·exact absurd k2 h2
open Classical in
theorem ssd_ev (W H : Int) (D : ByteArray) (w h : Int) (d : ByteArray) (left top : Int) (key : Bool) (q : Int) (large ex : Bool) (x y kd mode dx dy : Int) (l : List Int) (hl : l.length ≤ 1048576) :
  Ev (fun k => spec_SquareDots.f k W H D w h d left top key q large ex x y kd mode dx dy l) (sdV W H D w h d left top key q large ex x y kd mode dx dy l) := by
 have hbad := ssd_bad left top x y W H D w h d key q large ex kd mode dx dy l
 have hno : ∀ (_ : ¬ SdOk W H D w h d left top key q large ex x y kd mode dx dy l), Ev (fun k => spec_SquareDots.j0 k left top x y true W H D w h d key q large ex kd mode dx dy l) (sdV W H D w h d left top key q large ex x y kd mode dx dy l) := by
  intro hn
  unfold sdV
  rw [if_neg hn]
  exact hbad
 unfold spec_SquareDots.f
 simp only [fits_eq, Option.bind_some, in_eq, scond_val]
 by_cases c1 : PicR W H D ∧ SqAt W H x y
 ·simp only [decide_eq_true c1, if_true]
  by_cases c3 : 0 ≤ left ∧ left ≤ 256
  ·simp only [decide_eq_true c3, if_true]
   by_cases c4 : 0 ≤ top ∧ top ≤ 256
   ·simp only [decide_eq_true c4, if_true]
    refine Ev.bind (ssqok_ev kd mode dx dy l (by omega)) ?_
    cases c5 : sqB kd mode dx dy l with
    | false => simp only [Bool.false_eq_true, if_false]; exact hno (fun o => by have := o.sq; rw [c5] at this; cases this)
    | true =>
     simp only [if_true]
     cases c6 : condB q large ex with
     | false => simp only [Bool.not_false]; exact hno (fun o => by have := o.cond; rw [c6] at this; cases this)
     | true =>
      simp only [Bool.not_true]
      by_cases c8 : kd = 2
      ·subst c8
       have o : SdOk W H D w h d left top key q large ex x y 2 mode dx dy l := ⟨c1.1, c1.2, c3, c4, c5, c6, fun _ => rfl, fun hn => absurd rfl hn⟩
       unfold sdV
       rw [if_pos o]
       exact ssd_guess _ _ _ _ _ _ _ _ _ _ _ _ _ _ _ _ _ _ hl
      ·have hs : ∀ R, Ev (fun k => if key = true then spec_SquareDots.j1 k left top x y true w h d key q large ex kd mode dx dy l else (some (decide (PicR w h d))).bind fun t => spec_SquareDots.j1 k left top x y (!t) w h d key q large ex kd mode dx dy l) R → Ev (fun k => spec_SquareDots.j0 k left top x y false W H D w h d key q large ex kd mode dx dy l) R := by
        intro R e
        refine Ev.step (fun k => by simp only [spec_SquareDots.j0, pic_some]; rw [if_neg (show ¬ (false = true) by decide), if_neg c8]) e
       refine hs _ ?_
       cases key with
       | true =>
        simp only [if_true]
        unfold sdV
        rw [if_neg (fun o => c8 (o.let_ rfl))]
        exact ssd_bad1 _ _ _ _ _ _ _ _ _ _ _ _ _ _ _ _
       | false =>
        simp only [Bool.false_eq_true, if_false, Option.bind_some]
        by_cases c9 : PicR w h d
        ·have o : SdOk W H D w h d left top false q large ex x y kd mode dx dy l := ⟨c1.1, c1.2, c3, c4, c5, c6, (fun hk => by cases hk), fun _ => c9⟩
         simp only [decide_eq_true c9, Bool.not_true]
         unfold sdV
         rw [if_pos o]
         exact ssd_block W H D w h d left top false q large ex x y kd mode dx dy l hl c8 o
        ·simp only [decide_eq_false c9, Bool.not_false]
         unfold sdV
         rw [if_neg (fun o => c9 (o.ref c8))]
         exact ssd_bad1 _ _ _ _ _ _ _ _ _ _ _ _ _ _ _ _
   ·simp only [decide_eq_false c4, Bool.false_eq_true, if_false]; exact hno (fun o => c4 o.top_)
  ·simp only [decide_eq_false c3, Bool.false_eq_true, if_false]; exact hno (fun o => c3 o.left_)
 ·simp only [decide_eq_false c1, Bool.false_eq_true, if_false]; exact hno (fun o => c1 ⟨o.now, o.at_⟩)
theorem FnExactSquareDots : laws_FnExactSquareDots.Pure := by
 intro W H D w h d left top key q large ex x y kd mode dx dy l _ _ hD _ _ hd _ _ _ _ _ _ _ _ _ hlm _
 refine Ev.rounds ?_
 unfold laws_FnExactSquareDots.f
 obtain ⟨r1, e1, b1⟩ := sz_pic W H D 1048576 hD (by omega) (by omega)
 simp only [e1, Option.bind_some]
 by_cases c1 : r1 < 0
 ·simp only [c1, if_true]; exact Ev.now _
 ·simp only [c1, if_false]
  obtain ⟨r2, e2, b2⟩ := sz_pic w h d r1 hd (by omega) (by omega)
  simp only [e2, Option.bind_some]
  by_cases c2 : r2 < 0
  ·simp only [c2, if_true]; exact Ev.now _
  ·simp only [c2, if_false]
   obtain ⟨r3, e3, b3⟩ := szSquare_eq kd mode dx dy l r2 hlm (by omega) (by omega)
   simp only [e3, Option.bind_some]
   by_cases c3 : r3 < 0
   ·simp only [c3, if_true]; exact Ev.now _
   ·have hl : l.length ≤ 1048576 := by rcases b3 with h | h <;> omega
    simp only [c3, if_false, laws_toPic.f, laws_toCond.f, Option.bind_some]
    have hT := toSquare_ev kd mode dx dy l (by omega)
    have hS := ssd_ev W H D w h d left top key q large ex x y kd mode dx dy l hl
    have hI := isd_ev W H D w h d left top key q large ex x y kd mode dx dy l hl
    have hlen := sdV_len W H D w h d left top key q large ex x y kd mode dx dy l
    generalize sdV W H D w h d left top key q large ex x y kd mode dx dy l = v at hS hI hlen
    obtain ⟨v, b⟩ := v
    have hlen' : v.length ≤ 64 := hlen
    have hE := eqSelf_ev v (by omega)
    have hQ := eqSquare_self kd mode dx dy l (by omega)
    have hM0 := mark_ev l 1 (by omega) (by omega) (by omega)
    have hMq : Ev (fun k => laws_markSquare.f k kd mode dx dy l 1) (1 + (l.length : Int), marks l.length 1) := by unfold laws_markSquare.f; exact Ev.bind hM0 (Ev.now _)
    have hM := mark_ev v 1 (by omega) (by omega) (by omega)
    have hH := held_ev v.length 1 (by omega) (by omega) (by omega)
    have n1 : ¬ (1 + (l.length : Int) < 0) := by omega
    have n2 : ¬ (1 + (v.length : Int) < 0) := by omega
    repeat' (first
     | exact Ev.now _
     | (refine Ev.bind (by assumption) ?_)
     | (simp only [if_true, if_false, n1, n2, bne_self_eq_false, Bool.false_eq_true])
     | (refine Ev.step (fun k => by simp only [laws_FnExactSquareDots.j0]; rfl) ?_)
     | (refine Ev.step (fun k => by simp only [laws_FnExactSquareDots.j1, laws_toPic.f, laws_toCond.f, Option.bind_some]; rfl) ?_)
     | (refine Ev.step (fun k => by simp only [laws_FnExactSquareDots.j2]; rfl) ?_))
end Go.Proofs.Ytnaccgommclhaaa.Pure