/- What the law reaches, as plain functions, each with the proof that its call comes to its answer: written by a program for this claim. -/
import Derived.Test.YtnaccgommclhaaaQFnExactSquareDotsx0
import Derived.Test.YtnaccgommclhaaaQFnExactSquareDotsx14
import Derived.Test.YtnaccgommclhaaaQFnExactSquareDotsx16
import Derived.Test.YtnaccgommclhaaaQFnExactSquareDotsx18
import Derived.Test.YtnaccgommclhaaaUFnExactSquareDotsV5
namespace Go.Proofs.Ytnaccgommclhaaa.QFnExactSquareDots
open Go.RowKit Go.Proofs.YtnaccgommclhaaaW.PrintWords Go.Proofs.YtnaccgommclhaaaW.PrintLast Go.Proofs.YtnaccgommclhaaaW.PrintMore Go.Proofs.YtnaccgommclhaaaV
attribute [local go_sem] max2_int min2_int max_two min_two max_three min_three max_four min_four   -- for this text's walks alone
set_option linter.unusedVariables false
set_option linter.unusedSimpArgs false
set_option maxHeartbeats 8000000
set_option maxRecDepth 100000

def fl2 (x : Int) : Int := if Int.tmod x 2 < 0 then wrap64 (wrap64 (Int.tdiv x 2) - 1) else wrap64 (Int.tdiv x 2)
def b4 (a b c d : Int) : Int × Int × Int × Int := (wrap64 (wrap64 (a + c) + wrap64 (b + fl2 d)), wrap64 (wrap64 (a - c) + wrap64 (fl2 b - d)), wrap64 (wrap64 (a - c) - wrap64 (fl2 b - d)), wrap64 (wrap64 (a + c) - wrap64 (b + fl2 d)))
def impl_FourBack.f (k : Nat) (l0 : List Int) : Option (List Int) := (impl_areIn.f k l0 16 (-10000000) 10000000).bind fun t121 => (if t121 = true then (if l0.length = 16 then ((impl_settled.f k (turnedL b4 l0)).bind fun t178 => (some t178)) else (none)) else (some (([] : List Int))))
theorem fl2_eq (x : Int) : impl_floor.f x 2 = some (fl2 x) := by
 unfold impl_floor.f fl2
 rw [if_neg (by decide)]
 split <;> rfl
theorem b4.calls (a b c d : Int) (w : World) :
  Calls Try.prog 154 #[.int .i64 a, .int .i64 b, .int .i64 c, .int .i64 d] w fun e w' => e = .returned (.agg #[.int .i64 (b4 a b c d).1, .int .i64 (b4 a b c d).2.1, .int .i64 (b4 a b c d).2.2.1, .int .i64 (b4 a b c d).2.2.2]) ∧ Below w.heap.size w w' := by
 have F1 := Aside0.mk (fl2_eq b)
 have F2 := Aside0.mk (fl2_eq d)
 simp only [b4]
 generalize fl2 b = p at F1 ⊢
 generalize fl2 d = q at F2 ⊢
 go_enter Try.func154, Try.ntmps154
 go_wp2_with (first | (go_at_call_of 155 (Value.int .i64 b); (with_reducible refine (impl_floor.calls b 2 p _ F1.out).mono ?_); rintro e w' ⟨rfl, ⟨nd, rfl⟩⟩) | (go_at_call_of 155 (Value.int .i64 d); (with_reducible refine (impl_floor.calls d 2 q _ F2.out).mono ?_); rintro e w' ⟨rfl, ⟨nd, rfl⟩⟩))
 refine bodyPost_ret (results_cell_row (t := 150) (fr := (0, 0)) rfl _ _ w.heap.size _ _ rfl (set4heap _ w.heap.size _ _ _ _ _ _ _ _ 150 (heap_alloc_new w _)) Try.underlying150 rfl (by kernel_rfl)) rfl ⟨rfl, ?_⟩
 exact below_set (below_set (below_set (below_set (pw_below_drewN (below_alloc (Below.refl _ _) _) _) (Nat.le_refl _)) (Nat.le_refl _)) (Nat.le_refl _)) (Nat.le_refl _)
theorem turned72.calls (A0 : Option Addr) (c0 : Nat) (l0 : List Int) (w : World) (hr0 : Kd.C (Kd.int .i64) w A0 l0.length l0) (hc0 : l0.length ≤ c0) (h16 : l0.length = 16) :
  Calls Try.prog 153 #[.slice A0 l0.length c0, .func (.func 154) #[] #[]] w fun e w' => ∃ v0_ : Value, e = .returned (v0_) ∧ Kd.R (Kd.int .i64) 3 w' w.heap.size (fun _ => True) v0_ (turnedL b4 l0) ∧ Below w.heap.size w w' := by
 have HR0 := Aside0.mk hr0
 have HC0 := Aside0.mk hc0
 have H16 := Aside0.mk h16
 have HB := Aside0.mk (Below.refl w.heap.size w)
 have A1 := Aside0.mk (show impl_copyInts.f l0 = some l0 by unfold impl_copyInts.f; simp [h16])
 clear hr0 hc0 h16
 go_enter Try.func153, Try.ntmps153
 go_wp2_with (first | ((with_reducible refine gate_callee (f := 167) rfl ?_); refine gL (some 13) Try.func167 #[.slice A0 l0.length c0] ?_ (hargs := (by (try simp only [List.map_toArray, List.map_cons, List.map_nil]); first | done | rfl)); (with_reducible refine (impl_copyInts.calls _ _ l0 l0 _ ?side1 ?side2 A1.out).mono ?_); (case side1 => exact ca (HR0.out)); (case side2 => exact HC0.out); rintro e w8 ⟨v126, rfl, ho0, hb⟩; refine ⟨_, rfl, ?_⟩; have n0_ := Aside0.mk (Kd.R_lower ho0 (below_size HB.out)); have n1_ := Aside0.mk (below_step HB.out hb); clear HB; have HO := n0_; have HB := n1_; clear n0_ n1_ ho0 hb; obtain ⟨go, co, eo, gb, gl, cl, HG⟩ := Kd.R_form HO.out (by rw [H16.out]; decide); rw [H16.out] at eo; subst eo; clear HG cl gl))
 go_loopg [6] 4 (fun kq v6 w' => ∃ (n : Nat) (r : Int), v6 = .int .i64 r ∧ Aside0 (kq + n = 4 ∧ r = 4 * n) ∧ Aside0 (Kd.R (Kd.int .i64) 3 w' w.heap.size (fun _ => True) (.slice (some ⟨go, 0, none⟩) 16 co) (rowsT b4 l0 n)) ∧ Aside0 (Below w.heap.size w w'))
 case atStart => exact ⟨0, 0, rfl, ⟨rfl, rfl⟩, ⟨HO.out⟩, ⟨HB.out⟩⟩
 case round =>
  clear HO HB
  obtain ⟨n, r, rfl, HN, HO, HB⟩ := hrel
  have hn : n = 4 ∨ n = 0 ∨ n = 1 ∨ n = 2 ∨ n = 3 := by have := HN.out.1; omega
  rcases hn with rfl | hn
  ·obtain rfl : r = 16 := by have := HN.out.2; omega
   obtain ⟨Y, hY⟩ : ∃ Y, Y = rowsT b4 l0 4 := ⟨_, rfl⟩
   rw [← hY] at HO
   replace hY := Aside0.mk hY
   go_wp2
   go_loopg [46] 4 (fun kq v46 w' => ∃ (n : Nat) (c : Int), v46 = .int .i64 c ∧ Aside0 (kq + n = 4 ∧ c = n) ∧ Aside0 (Kd.R (Kd.int .i64) 3 w' w.heap.size (fun _ => True) (.slice (some ⟨go, 0, none⟩) 16 co) (colsT b4 Y n)) ∧ Aside0 (Below w.heap.size w w'))
   case atStart => exact ⟨0, 0, rfl, ⟨rfl, rfl⟩, HO, HB⟩
   case round =>
    clear HO HB HN
    obtain ⟨n, c, rfl, HM, HO, HB⟩ := hrel
    have hn : n = 4 ∨ n = 0 ∨ n = 1 ∨ n = 2 ∨ n = 3 := by have := HM.out.1; omega
    rcases hn with rfl | hn
    ·obtain rfl : c = 4 := by have := HM.out.2; omega
     go_wp2
     go_ret
     exact ⟨_, rfl, by rw [turnedL, ← hY.out]; exact HO.out, HB.out⟩
    rcases hn with rfl | hn
    ·obtain rfl : gk = 4 := by have := HM.out.1; omega
     obtain rfl : c = 0 := by have := HM.out.2; omega
     obtain ⟨X, hX⟩ : ∃ X, X = colsT b4 Y 0 := ⟨_, rfl⟩
     rw [← hX] at HO
     replace hX := Aside0.mk hX
     have hx0 : wr.cell? ⟨go, 0, none⟩ = some (.int .i64 (rd X 0)) := (Kd.R_celln 0 HO.out 0 (by decide) (by decide)).1
     have hx1 : wr.cell? ⟨go, 4, none⟩ = some (.int .i64 (rd X 4)) := (Kd.R_celln 0 HO.out 4 (by decide) (by decide)).1
     have hx2 : wr.cell? ⟨go, 8, none⟩ = some (.int .i64 (rd X 8)) := (Kd.R_celln 0 HO.out 8 (by decide) (by decide)).1
     have hx3 : wr.cell? ⟨go, 12, none⟩ = some (.int .i64 (rd X 12)) := (Kd.R_celln 0 HO.out 12 (by decide) (by decide)).1
     generalize hq0 : rd X 0 = q0 at hx0
     generalize hq1 : rd X 4 = q1 at hx1
     generalize hq2 : rd X 8 = q2 at hx2
     generalize hq3 : rd X 12 = q3 at hx3
     replace hq0 := Aside0.mk hq0
     replace hq1 := Aside0.mk hq1
     replace hq2 := Aside0.mk hq2
     replace hq3 := Aside0.mk hq3
     have hd0 : wr.drew.cell? ⟨go, 0, none⟩ = some (.int .i64 q0) := hx0
     have hd1 : wr.drew.cell? ⟨go, 4, none⟩ = some (.int .i64 q1) := hx1
     have hd2 : wr.drew.cell? ⟨go, 8, none⟩ = some (.int .i64 q2) := hx2
     have hd3 : wr.drew.cell? ⟨go, 12, none⟩ = some (.int .i64 q3) := hx3
     have e1 : IntKind.i64.wrap (0 + 4) = 4 := rfl
     have g1 : IntKind.i64.wrap 4 = 4 := rfl
     have e2 : IntKind.i64.wrap (0 + 8) = 8 := rfl
     have g2 : IntKind.i64.wrap 8 = 8 := rfl
     have e3 : IntKind.i64.wrap (0 + 12) = 12 := rfl
     have g3 : IntKind.i64.wrap 12 = 12 := rfl
     have hlt := World.block_lt_of_cell? wr _ hx0
     have hne : ¬ (wr.heap.size = go) := by simp at hlt; omega
     go_wp2
     refine share4 (G := ?G1) (fun tail_ => ?main1) ?tail1
     case main1 =>
      go_region_held3 (fun W => W.cell? ⟨go, 0, none⟩ = some (.int .i64 q0) ∧ W.cell? ⟨go, 4, none⟩ = some (.int .i64 q1) ∧ W.cell? ⟨go, 8, none⟩ = some (.int .i64 q2) ∧ W.cell? ⟨go, 12, none⟩ = some (.int .i64 q3)) ((with_reducible ((repeat' apply And.intro) <;> (first | exact hd0 | exact (hb2.cell (World.block_lt_of_cell? _ _ hx0)).trans hx0 | exact ((below_alloc hb2 _).cell (World.block_lt_of_cell? _ _ hx0)).trans hx0 | exact ((below_drew (below_alloc (Below.refl _ _) _)).cell (World.block_lt_of_cell? _ _ hx0)).trans hx0 | exact hd1 | exact (hb2.cell (World.block_lt_of_cell? _ _ hx1)).trans hx1 | exact ((below_alloc hb2 _).cell (World.block_lt_of_cell? _ _ hx1)).trans hx1 | exact ((below_drew (below_alloc (Below.refl _ _) _)).cell (World.block_lt_of_cell? _ _ hx1)).trans hx1 | exact hd2 | exact (hb2.cell (World.block_lt_of_cell? _ _ hx2)).trans hx2 | exact ((below_alloc hb2 _).cell (World.block_lt_of_cell? _ _ hx2)).trans hx2 | exact ((below_drew (below_alloc (Below.refl _ _) _)).cell (World.block_lt_of_cell? _ _ hx2)).trans hx2 | exact hd3 | exact (hb2.cell (World.block_lt_of_cell? _ _ hx3)).trans hx3 | exact ((below_alloc hb2 _).cell (World.block_lt_of_cell? _ _ hx3)).trans hx3 | exact ((below_drew (below_alloc (Below.refl _ _) _)).cell (World.block_lt_of_cell? _ _ hx3)).trans hx3 | (refine Eq.trans (World.cell?_setCell_other _ _ _ _ (fun e_ => absurd (congrArg Addr.block e_) hne)) ?_; refine Eq.trans (World.cell?_setCell_other _ _ _ _ (fun e_ => absurd (congrArg Addr.block e_) hne)) ?_; refine Eq.trans (World.cell?_setCell_other _ _ _ _ (fun e_ => absurd (congrArg Addr.block e_) hne)) ?_; refine Eq.trans (World.cell?_setCell_other _ _ _ _ (fun e_ => absurd (congrArg Addr.block e_) hne)) ?_; first | exact (hb2.cell (World.block_lt_of_cell? _ _ hx0)).trans hx0 | exact (hb2.cell (World.block_lt_of_cell? _ _ hx1)).trans hx1 | exact (hb2.cell (World.block_lt_of_cell? _ _ hx2)).trans hx2 | exact (hb2.cell (World.block_lt_of_cell? _ _ hx3)).trans hx3))))) (first | (go_at_call 154; refine (b4.calls _ _ _ _ _).mono ?_; rintro e w2 ⟨rfl, hb2⟩; (first | (have hz : w2.heap[wr.heap.size]? = some (.cells #[.int .i64 0, .int .i64 0, .int .i64 0, .int .i64 0] 150) := (hb2.block wr.heap.size (by simp)).trans (heap_alloc_new wr.drew _); have hc0 : w2.cell? ⟨wr.heap.size, 0, none⟩ = some (.int .i64 0) := (by simp [World.cell?, hz]); have hf0 : w2.frozen? ⟨wr.heap.size, 0, none⟩ = false := (by simp [World.frozen?, hz]); have hc1 : w2.cell? ⟨wr.heap.size, 1, none⟩ = some (.int .i64 0) := (by simp [World.cell?, hz]); have hf1 : w2.frozen? ⟨wr.heap.size, 1, none⟩ = false := (by simp [World.frozen?, hz]); have hc2 : w2.cell? ⟨wr.heap.size, 2, none⟩ = some (.int .i64 0) := (by simp [World.cell?, hz]); have hf2 : w2.frozen? ⟨wr.heap.size, 2, none⟩ = false := (by simp [World.frozen?, hz]); have hc3 : w2.cell? ⟨wr.heap.size, 3, none⟩ = some (.int .i64 0) := (by simp [World.cell?, hz]); have hf3 : w2.frozen? ⟨wr.heap.size, 3, none⟩ = false := (by simp [World.frozen?, hz]); clear hz; replace hb2 : Below wr.heap.size wr w2 := below_step (below_drew (below_alloc (Below.refl wr.heap.size wr) _)) hb2) | (replace hb2 : Below wr.heap.size wr w2 := below_step (below_drew (Below.refl wr.heap.size wr)) hb2))))
      ·have hB4 : Below wr.heap.size wr (w2.alloc (.cells #[.int .i64 (b4 q0 q1 q2 q3).1, .int .i64 (b4 q0 q1 q2 q3).2.1, .int .i64 (b4 q0 q1 q2 q3).2.2.1, .int .i64 (b4 q0 q1 q2 q3).2.2.2] 150)) := below_alloc hb2 _
       have hn4 : Aside0 (w2.heap.size ≠ go) := ⟨by have := hb2.size; have h2_ := World.block_lt_of_cell? wr _ hx0; simp at this h2_; omega⟩
       have HOW : Aside0 (Kd.R (Kd.int .i64) 3 (w2.alloc (.cells #[.int .i64 (b4 q0 q1 q2 q3).1, .int .i64 (b4 q0 q1 q2 q3).2.1, .int .i64 (b4 q0 q1 q2 q3).2.2.1, .int .i64 (b4 q0 q1 q2 q3).2.2.2] 150)) w.heap.size (fun _ => True) (.slice (some ⟨go, 0, none⟩) 16 co) X) := ⟨Kd.R_below HO.out hB4⟩
       have HBW : Aside0 (Below w.heap.size w (w2.alloc (.cells #[.int .i64 (b4 q0 q1 q2 q3).1, .int .i64 (b4 q0 q1 q2 q3).2.1, .int .i64 (b4 q0 q1 q2 q3).2.2.1, .int .i64 (b4 q0 q1 q2 q3).2.2.2] 150))) := ⟨below_step HB.out hB4⟩
       obtain ⟨k0, k1, k2, k3⟩ := new4 w2 (.int .i64 (b4 q0 q1 q2 q3).1) (.int .i64 (b4 q0 q1 q2 q3).2.1) (.int .i64 (b4 q0 q1 q2 q3).2.2.1) (.int .i64 (b4 q0 q1 q2 q3).2.2.2)
       revert HOW HBW hn4 k0 k1 k2 k3
       generalize w2.alloc _ = W4
       generalize w2.heap.size = bk4
       intro hn4 HOW HBW k0 k1 k2 k3
       revert hn4 HOW HBW k0 k1 k2 k3
       revert bk4
       revert W4
       exact tail_
      ·have hB4 : Below wr.heap.size wr ((((w2.setCell ⟨wr.heap.size, 0, none⟩ (.int .i64 (b4 q0 q1 q2 q3).1)).setCell ⟨wr.heap.size, 1, none⟩ (.int .i64 (b4 q0 q1 q2 q3).2.1)).setCell ⟨wr.heap.size, 2, none⟩ (.int .i64 (b4 q0 q1 q2 q3).2.2.1)).setCell ⟨wr.heap.size, 3, none⟩ (.int .i64 (b4 q0 q1 q2 q3).2.2.2)) := below_set (below_set (below_set (below_set hb2 (Nat.le_refl _)) (Nat.le_refl _)) (Nat.le_refl _)) (Nat.le_refl _)
       have hn4 : Aside0 (wr.heap.size ≠ go) := ⟨hne⟩
       have HOW : Aside0 (Kd.R (Kd.int .i64) 3 ((((w2.setCell ⟨wr.heap.size, 0, none⟩ (.int .i64 (b4 q0 q1 q2 q3).1)).setCell ⟨wr.heap.size, 1, none⟩ (.int .i64 (b4 q0 q1 q2 q3).2.1)).setCell ⟨wr.heap.size, 2, none⟩ (.int .i64 (b4 q0 q1 q2 q3).2.2.1)).setCell ⟨wr.heap.size, 3, none⟩ (.int .i64 (b4 q0 q1 q2 q3).2.2.2)) w.heap.size (fun _ => True) (.slice (some ⟨go, 0, none⟩) 16 co) X) := ⟨Kd.R_below HO.out hB4⟩
       have HBW : Aside0 (Below w.heap.size w ((((w2.setCell ⟨wr.heap.size, 0, none⟩ (.int .i64 (b4 q0 q1 q2 q3).1)).setCell ⟨wr.heap.size, 1, none⟩ (.int .i64 (b4 q0 q1 q2 q3).2.1)).setCell ⟨wr.heap.size, 2, none⟩ (.int .i64 (b4 q0 q1 q2 q3).2.2.1)).setCell ⟨wr.heap.size, 3, none⟩ (.int .i64 (b4 q0 q1 q2 q3).2.2.2))) := ⟨below_step HB.out hB4⟩
       obtain ⟨k0, k1, k2, k3⟩ := set4 w2 wr.heap.size _ _ _ _ (.int .i64 (b4 q0 q1 q2 q3).1) (.int .i64 (b4 q0 q1 q2 q3).2.1) (.int .i64 (b4 q0 q1 q2 q3).2.2.1) (.int .i64 (b4 q0 q1 q2 q3).2.2.2) hc0 hc1 hc2 hc3
       revert HOW HBW hn4 k0 k1 k2 k3
       generalize ((((w2.setCell ⟨wr.heap.size, 0, none⟩ (.int .i64 (b4 q0 q1 q2 q3).1)).setCell ⟨wr.heap.size, 1, none⟩ (.int .i64 (b4 q0 q1 q2 q3).2.1)).setCell ⟨wr.heap.size, 2, none⟩ (.int .i64 (b4 q0 q1 q2 q3).2.2.1)).setCell ⟨wr.heap.size, 3, none⟩ (.int .i64 (b4 q0 q1 q2 q3).2.2.2)) = W4
       generalize wr.heap.size = bk4
       intro hn4 HOW HBW k0 k1 k2 k3
       revert hn4 HOW HBW k0 k1 k2 k3
       revert bk4
       revert W4
       exact tail_
     case tail1 =>
      intro W4 bk4 hn4 HOW HBW k0 k1 k2 k3
      clear hx0 hx1 hx2 hx3 hd0 hd1 hd2 hd3 hne hlt HO HB
      go_wp2
      go_loopg [71] 4 (fun kq v71 w' => ∃ (m : Nat) (i : Int), v71 = .int .i64 i ∧ Aside0 (kq + m = 4 ∧ i = m) ∧ Aside0 (Kd.R (Kd.int .i64) 3 w' w.heap.size (fun _ => True) (.slice (some ⟨go, 0, none⟩) 16 co) (setsT X 0 (b4 q0 q1 q2 q3) m)) ∧ Aside0 (Below w.heap.size w w'))
      case atStart => exact ⟨0, 0, rfl, ⟨rfl, rfl⟩, HOW, HBW⟩
      case round =>
       clear HOW HBW k0 k1 k2 k3
       obtain ⟨m, i, rfl, HN2, HO, HB⟩ := hrel
       have hm : m = 4 ∨ m = 0 ∨ m = 1 ∨ m = 2 ∨ m = 3 := by have := HN2.out.1; omega
       rcases hm with rfl | hm
       ·obtain rfl : i = 4 := by have := HN2.out.2; omega
        have hfin : setsT X 0 (b4 q0 q1 q2 q3) 4 = colsT b4 Y 1 := by rw [← hq0.out, ← hq1.out, ← hq2.out, ← hq3.out, hX.out]; rfl
        rw [hfin] at HO
        clear hfin
        go_wp2
        go_roundg 3
        case measure => decide
        case rel => exact ⟨1, 1, rfl, ⟨by decide, by decide⟩, HO, HB⟩
       rcases hm with rfl | hm
       ·obtain rfl : i = 0 := by have := HN2.out.2; omega
        obtain rfl : gk = 4 := by have := HN2.out.1; omega
        obtain ⟨hx0, hf0⟩ : wr.cell? ⟨go, 0, none⟩ = some (.int .i64 (rd (setsT X 0 (b4 q0 q1 q2 q3) 0) 0)) ∧ wr.frozen? ⟨go, 0, none⟩ = false := Kd.R_celln 0 HO.out 0 (by decide) (by decide)
        have HO5 := Aside0.mk (Kd.R_putg HO.out 0 ((b4 q0 q1 q2 q3).1)).1
        have HB5 := Aside0.mk (below_set (j := 0) (v := .int .i64 (b4 q0 q1 q2 q3).1) HB.out gb)
        have e1 : IntKind.i64.wrap (4 * 0) = 0 := rfl
        have g1 : IntKind.i64.wrap 0 = 0 := rfl
        have e2 : IntKind.i64.wrap (0 + 0) = 0 := rfl
        have g2 : IntKind.i64.wrap 0 = 0 := rfl
        have hix : ∀ W, (Instr.index 150 (.agg #[.int .i64 (b4 q0 q1 q2 q3).1, .int .i64 (b4 q0 q1 q2 q3).2.1, .int .i64 (b4 q0 q1 q2 q3).2.2.1, .int .i64 (b4 q0 q1 q2 q3).2.2.2]) (.int .i64 0)).run Try.prog W = .ok (.int .i64 (b4 q0 q1 q2 q3).1) W := fun W => (index4 W _ _ _ _).1
        go_wp2
        go_roundg 3
        case measure => decide
        case rel => exact ⟨1, 1, rfl, ⟨by decide, by decide⟩, HO5, HB5⟩
       rcases hm with rfl | hm
       ·obtain rfl : i = 1 := by have := HN2.out.2; omega
        obtain rfl : gk = 3 := by have := HN2.out.1; omega
        obtain ⟨hx0, hf0⟩ : wr.cell? ⟨go, 4, none⟩ = some (.int .i64 (rd (setsT X 0 (b4 q0 q1 q2 q3) 1) 4)) ∧ wr.frozen? ⟨go, 4, none⟩ = false := Kd.R_celln 0 HO.out 4 (by decide) (by decide)
        have HO5 := Aside0.mk (Kd.R_putg HO.out 4 ((b4 q0 q1 q2 q3).2.1)).1
        have HB5 := Aside0.mk (below_set (j := 4) (v := .int .i64 (b4 q0 q1 q2 q3).2.1) HB.out gb)
        have e1 : IntKind.i64.wrap (4 * 1) = 4 := rfl
        have g1 : IntKind.i64.wrap 4 = 4 := rfl
        have e2 : IntKind.i64.wrap (0 + 4) = 4 := rfl
        have g2 : IntKind.i64.wrap 4 = 4 := rfl
        have hix : ∀ W, (Instr.index 150 (.agg #[.int .i64 (b4 q0 q1 q2 q3).1, .int .i64 (b4 q0 q1 q2 q3).2.1, .int .i64 (b4 q0 q1 q2 q3).2.2.1, .int .i64 (b4 q0 q1 q2 q3).2.2.2]) (.int .i64 1)).run Try.prog W = .ok (.int .i64 (b4 q0 q1 q2 q3).2.1) W := fun W => (index4 W _ _ _ _).2.1
        go_wp2
        go_roundg 2
        case measure => decide
        case rel => exact ⟨2, 2, rfl, ⟨by decide, by decide⟩, HO5, HB5⟩
       rcases hm with rfl | hm
       ·obtain rfl : i = 2 := by have := HN2.out.2; omega
        obtain rfl : gk = 2 := by have := HN2.out.1; omega
        obtain ⟨hx0, hf0⟩ : wr.cell? ⟨go, 8, none⟩ = some (.int .i64 (rd (setsT X 0 (b4 q0 q1 q2 q3) 2) 8)) ∧ wr.frozen? ⟨go, 8, none⟩ = false := Kd.R_celln 0 HO.out 8 (by decide) (by decide)
        have HO5 := Aside0.mk (Kd.R_putg HO.out 8 ((b4 q0 q1 q2 q3).2.2.1)).1
        have HB5 := Aside0.mk (below_set (j := 8) (v := .int .i64 (b4 q0 q1 q2 q3).2.2.1) HB.out gb)
        have e1 : IntKind.i64.wrap (4 * 2) = 8 := rfl
        have g1 : IntKind.i64.wrap 8 = 8 := rfl
        have e2 : IntKind.i64.wrap (0 + 8) = 8 := rfl
        have g2 : IntKind.i64.wrap 8 = 8 := rfl
        have hix : ∀ W, (Instr.index 150 (.agg #[.int .i64 (b4 q0 q1 q2 q3).1, .int .i64 (b4 q0 q1 q2 q3).2.1, .int .i64 (b4 q0 q1 q2 q3).2.2.1, .int .i64 (b4 q0 q1 q2 q3).2.2.2]) (.int .i64 2)).run Try.prog W = .ok (.int .i64 (b4 q0 q1 q2 q3).2.2.1) W := fun W => (index4 W _ _ _ _).2.2.1
        go_wp2
        go_roundg 1
        case measure => decide
        case rel => exact ⟨3, 3, rfl, ⟨by decide, by decide⟩, HO5, HB5⟩
       obtain rfl := hm
       ·obtain rfl : i = 3 := by have := HN2.out.2; omega
        obtain rfl : gk = 1 := by have := HN2.out.1; omega
        obtain ⟨hx0, hf0⟩ : wr.cell? ⟨go, 12, none⟩ = some (.int .i64 (rd (setsT X 0 (b4 q0 q1 q2 q3) 3) 12)) ∧ wr.frozen? ⟨go, 12, none⟩ = false := Kd.R_celln 0 HO.out 12 (by decide) (by decide)
        have HO5 := Aside0.mk (Kd.R_putg HO.out 12 ((b4 q0 q1 q2 q3).2.2.2)).1
        have HB5 := Aside0.mk (below_set (j := 12) (v := .int .i64 (b4 q0 q1 q2 q3).2.2.2) HB.out gb)
        have e1 : IntKind.i64.wrap (4 * 3) = 12 := rfl
        have g1 : IntKind.i64.wrap 12 = 12 := rfl
        have e2 : IntKind.i64.wrap (0 + 12) = 12 := rfl
        have g2 : IntKind.i64.wrap 12 = 12 := rfl
        have hix : ∀ W, (Instr.index 150 (.agg #[.int .i64 (b4 q0 q1 q2 q3).1, .int .i64 (b4 q0 q1 q2 q3).2.1, .int .i64 (b4 q0 q1 q2 q3).2.2.1, .int .i64 (b4 q0 q1 q2 q3).2.2.2]) (.int .i64 3)).run Try.prog W = .ok (.int .i64 (b4 q0 q1 q2 q3).2.2.2) W := fun W => (index4 W _ _ _ _).2.2.2
        go_wp2
        go_roundg 0
        case measure => decide
        case rel => exact ⟨4, 4, rfl, ⟨by decide, by decide⟩, HO5, HB5⟩
    rcases hn with rfl | hn
    ·obtain rfl : gk = 3 := by have := HM.out.1; omega
     obtain rfl : c = 1 := by have := HM.out.2; omega
     obtain ⟨X, hX⟩ : ∃ X, X = colsT b4 Y 1 := ⟨_, rfl⟩
     rw [← hX] at HO
     replace hX := Aside0.mk hX
     have hx0 : wr.cell? ⟨go, 1, none⟩ = some (.int .i64 (rd X 1)) := (Kd.R_celln 0 HO.out 1 (by decide) (by decide)).1
     have hx1 : wr.cell? ⟨go, 5, none⟩ = some (.int .i64 (rd X 5)) := (Kd.R_celln 0 HO.out 5 (by decide) (by decide)).1
     have hx2 : wr.cell? ⟨go, 9, none⟩ = some (.int .i64 (rd X 9)) := (Kd.R_celln 0 HO.out 9 (by decide) (by decide)).1
     have hx3 : wr.cell? ⟨go, 13, none⟩ = some (.int .i64 (rd X 13)) := (Kd.R_celln 0 HO.out 13 (by decide) (by decide)).1
     generalize hq0 : rd X 1 = q0 at hx0
     generalize hq1 : rd X 5 = q1 at hx1
     generalize hq2 : rd X 9 = q2 at hx2
     generalize hq3 : rd X 13 = q3 at hx3
     replace hq0 := Aside0.mk hq0
     replace hq1 := Aside0.mk hq1
     replace hq2 := Aside0.mk hq2
     replace hq3 := Aside0.mk hq3
     have hd0 : wr.drew.cell? ⟨go, 1, none⟩ = some (.int .i64 q0) := hx0
     have hd1 : wr.drew.cell? ⟨go, 5, none⟩ = some (.int .i64 q1) := hx1
     have hd2 : wr.drew.cell? ⟨go, 9, none⟩ = some (.int .i64 q2) := hx2
     have hd3 : wr.drew.cell? ⟨go, 13, none⟩ = some (.int .i64 q3) := hx3
     have e1 : IntKind.i64.wrap (1 + 4) = 5 := rfl
     have g1 : IntKind.i64.wrap 5 = 5 := rfl
     have e2 : IntKind.i64.wrap (1 + 8) = 9 := rfl
     have g2 : IntKind.i64.wrap 9 = 9 := rfl
     have e3 : IntKind.i64.wrap (1 + 12) = 13 := rfl
     have g3 : IntKind.i64.wrap 13 = 13 := rfl
     have hlt := World.block_lt_of_cell? wr _ hx0
     have hne : ¬ (wr.heap.size = go) := by simp at hlt; omega
     go_wp2
     refine share4 (G := ?G2) (fun tail_ => ?main2) ?tail2
     case main2 =>
      go_region_held3 (fun W => W.cell? ⟨go, 1, none⟩ = some (.int .i64 q0) ∧ W.cell? ⟨go, 5, none⟩ = some (.int .i64 q1) ∧ W.cell? ⟨go, 9, none⟩ = some (.int .i64 q2) ∧ W.cell? ⟨go, 13, none⟩ = some (.int .i64 q3)) ((with_reducible ((repeat' apply And.intro) <;> (first | exact hd0 | exact (hb2.cell (World.block_lt_of_cell? _ _ hx0)).trans hx0 | exact ((below_alloc hb2 _).cell (World.block_lt_of_cell? _ _ hx0)).trans hx0 | exact ((below_drew (below_alloc (Below.refl _ _) _)).cell (World.block_lt_of_cell? _ _ hx0)).trans hx0 | exact hd1 | exact (hb2.cell (World.block_lt_of_cell? _ _ hx1)).trans hx1 | exact ((below_alloc hb2 _).cell (World.block_lt_of_cell? _ _ hx1)).trans hx1 | exact ((below_drew (below_alloc (Below.refl _ _) _)).cell (World.block_lt_of_cell? _ _ hx1)).trans hx1 | exact hd2 | exact (hb2.cell (World.block_lt_of_cell? _ _ hx2)).trans hx2 | exact ((below_alloc hb2 _).cell (World.block_lt_of_cell? _ _ hx2)).trans hx2 | exact ((below_drew (below_alloc (Below.refl _ _) _)).cell (World.block_lt_of_cell? _ _ hx2)).trans hx2 | exact hd3 | exact (hb2.cell (World.block_lt_of_cell? _ _ hx3)).trans hx3 | exact ((below_alloc hb2 _).cell (World.block_lt_of_cell? _ _ hx3)).trans hx3 | exact ((below_drew (below_alloc (Below.refl _ _) _)).cell (World.block_lt_of_cell? _ _ hx3)).trans hx3 | (refine Eq.trans (World.cell?_setCell_other _ _ _ _ (fun e_ => absurd (congrArg Addr.block e_) hne)) ?_; refine Eq.trans (World.cell?_setCell_other _ _ _ _ (fun e_ => absurd (congrArg Addr.block e_) hne)) ?_; refine Eq.trans (World.cell?_setCell_other _ _ _ _ (fun e_ => absurd (congrArg Addr.block e_) hne)) ?_; refine Eq.trans (World.cell?_setCell_other _ _ _ _ (fun e_ => absurd (congrArg Addr.block e_) hne)) ?_; first | exact (hb2.cell (World.block_lt_of_cell? _ _ hx0)).trans hx0 | exact (hb2.cell (World.block_lt_of_cell? _ _ hx1)).trans hx1 | exact (hb2.cell (World.block_lt_of_cell? _ _ hx2)).trans hx2 | exact (hb2.cell (World.block_lt_of_cell? _ _ hx3)).trans hx3))))) (first | (go_at_call 154; refine (b4.calls _ _ _ _ _).mono ?_; rintro e w2 ⟨rfl, hb2⟩; (first | (have hz : w2.heap[wr.heap.size]? = some (.cells #[.int .i64 0, .int .i64 0, .int .i64 0, .int .i64 0] 150) := (hb2.block wr.heap.size (by simp)).trans (heap_alloc_new wr.drew _); have hc0 : w2.cell? ⟨wr.heap.size, 0, none⟩ = some (.int .i64 0) := (by simp [World.cell?, hz]); have hf0 : w2.frozen? ⟨wr.heap.size, 0, none⟩ = false := (by simp [World.frozen?, hz]); have hc1 : w2.cell? ⟨wr.heap.size, 1, none⟩ = some (.int .i64 0) := (by simp [World.cell?, hz]); have hf1 : w2.frozen? ⟨wr.heap.size, 1, none⟩ = false := (by simp [World.frozen?, hz]); have hc2 : w2.cell? ⟨wr.heap.size, 2, none⟩ = some (.int .i64 0) := (by simp [World.cell?, hz]); have hf2 : w2.frozen? ⟨wr.heap.size, 2, none⟩ = false := (by simp [World.frozen?, hz]); have hc3 : w2.cell? ⟨wr.heap.size, 3, none⟩ = some (.int .i64 0) := (by simp [World.cell?, hz]); have hf3 : w2.frozen? ⟨wr.heap.size, 3, none⟩ = false := (by simp [World.frozen?, hz]); clear hz; replace hb2 : Below wr.heap.size wr w2 := below_step (below_drew (below_alloc (Below.refl wr.heap.size wr) _)) hb2) | (replace hb2 : Below wr.heap.size wr w2 := below_step (below_drew (Below.refl wr.heap.size wr)) hb2))))
      ·have hB4 : Below wr.heap.size wr (w2.alloc (.cells #[.int .i64 (b4 q0 q1 q2 q3).1, .int .i64 (b4 q0 q1 q2 q3).2.1, .int .i64 (b4 q0 q1 q2 q3).2.2.1, .int .i64 (b4 q0 q1 q2 q3).2.2.2] 150)) := below_alloc hb2 _
       have hn4 : Aside0 (w2.heap.size ≠ go) := ⟨by have := hb2.size; have h2_ := World.block_lt_of_cell? wr _ hx0; simp at this h2_; omega⟩
       have HOW : Aside0 (Kd.R (Kd.int .i64) 3 (w2.alloc (.cells #[.int .i64 (b4 q0 q1 q2 q3).1, .int .i64 (b4 q0 q1 q2 q3).2.1, .int .i64 (b4 q0 q1 q2 q3).2.2.1, .int .i64 (b4 q0 q1 q2 q3).2.2.2] 150)) w.heap.size (fun _ => True) (.slice (some ⟨go, 0, none⟩) 16 co) X) := ⟨Kd.R_below HO.out hB4⟩
       have HBW : Aside0 (Below w.heap.size w (w2.alloc (.cells #[.int .i64 (b4 q0 q1 q2 q3).1, .int .i64 (b4 q0 q1 q2 q3).2.1, .int .i64 (b4 q0 q1 q2 q3).2.2.1, .int .i64 (b4 q0 q1 q2 q3).2.2.2] 150))) := ⟨below_step HB.out hB4⟩
       obtain ⟨k0, k1, k2, k3⟩ := new4 w2 (.int .i64 (b4 q0 q1 q2 q3).1) (.int .i64 (b4 q0 q1 q2 q3).2.1) (.int .i64 (b4 q0 q1 q2 q3).2.2.1) (.int .i64 (b4 q0 q1 q2 q3).2.2.2)
       revert HOW HBW hn4 k0 k1 k2 k3
       generalize w2.alloc _ = W4
       generalize w2.heap.size = bk4
       intro hn4 HOW HBW k0 k1 k2 k3
       revert hn4 HOW HBW k0 k1 k2 k3
       revert bk4
       revert W4
       exact tail_
      ·have hB4 : Below wr.heap.size wr ((((w2.setCell ⟨wr.heap.size, 0, none⟩ (.int .i64 (b4 q0 q1 q2 q3).1)).setCell ⟨wr.heap.size, 1, none⟩ (.int .i64 (b4 q0 q1 q2 q3).2.1)).setCell ⟨wr.heap.size, 2, none⟩ (.int .i64 (b4 q0 q1 q2 q3).2.2.1)).setCell ⟨wr.heap.size, 3, none⟩ (.int .i64 (b4 q0 q1 q2 q3).2.2.2)) := below_set (below_set (below_set (below_set hb2 (Nat.le_refl _)) (Nat.le_refl _)) (Nat.le_refl _)) (Nat.le_refl _)
       have hn4 : Aside0 (wr.heap.size ≠ go) := ⟨hne⟩
       have HOW : Aside0 (Kd.R (Kd.int .i64) 3 ((((w2.setCell ⟨wr.heap.size, 0, none⟩ (.int .i64 (b4 q0 q1 q2 q3).1)).setCell ⟨wr.heap.size, 1, none⟩ (.int .i64 (b4 q0 q1 q2 q3).2.1)).setCell ⟨wr.heap.size, 2, none⟩ (.int .i64 (b4 q0 q1 q2 q3).2.2.1)).setCell ⟨wr.heap.size, 3, none⟩ (.int .i64 (b4 q0 q1 q2 q3).2.2.2)) w.heap.size (fun _ => True) (.slice (some ⟨go, 0, none⟩) 16 co) X) := ⟨Kd.R_below HO.out hB4⟩
       have HBW : Aside0 (Below w.heap.size w ((((w2.setCell ⟨wr.heap.size, 0, none⟩ (.int .i64 (b4 q0 q1 q2 q3).1)).setCell ⟨wr.heap.size, 1, none⟩ (.int .i64 (b4 q0 q1 q2 q3).2.1)).setCell ⟨wr.heap.size, 2, none⟩ (.int .i64 (b4 q0 q1 q2 q3).2.2.1)).setCell ⟨wr.heap.size, 3, none⟩ (.int .i64 (b4 q0 q1 q2 q3).2.2.2))) := ⟨below_step HB.out hB4⟩
       obtain ⟨k0, k1, k2, k3⟩ := set4 w2 wr.heap.size _ _ _ _ (.int .i64 (b4 q0 q1 q2 q3).1) (.int .i64 (b4 q0 q1 q2 q3).2.1) (.int .i64 (b4 q0 q1 q2 q3).2.2.1) (.int .i64 (b4 q0 q1 q2 q3).2.2.2) hc0 hc1 hc2 hc3
       revert HOW HBW hn4 k0 k1 k2 k3
       generalize ((((w2.setCell ⟨wr.heap.size, 0, none⟩ (.int .i64 (b4 q0 q1 q2 q3).1)).setCell ⟨wr.heap.size, 1, none⟩ (.int .i64 (b4 q0 q1 q2 q3).2.1)).setCell ⟨wr.heap.size, 2, none⟩ (.int .i64 (b4 q0 q1 q2 q3).2.2.1)).setCell ⟨wr.heap.size, 3, none⟩ (.int .i64 (b4 q0 q1 q2 q3).2.2.2)) = W4
       generalize wr.heap.size = bk4
       intro hn4 HOW HBW k0 k1 k2 k3
       revert hn4 HOW HBW k0 k1 k2 k3
       revert bk4
       revert W4
       exact tail_
     case tail2 =>
      intro W4 bk4 hn4 HOW HBW k0 k1 k2 k3
      clear hx0 hx1 hx2 hx3 hd0 hd1 hd2 hd3 hne hlt HO HB
      go_wp2
      go_loopg [71] 4 (fun kq v71 w' => ∃ (m : Nat) (i : Int), v71 = .int .i64 i ∧ Aside0 (kq + m = 4 ∧ i = m) ∧ Aside0 (Kd.R (Kd.int .i64) 3 w' w.heap.size (fun _ => True) (.slice (some ⟨go, 0, none⟩) 16 co) (setsT X 1 (b4 q0 q1 q2 q3) m)) ∧ Aside0 (Below w.heap.size w w'))
      case atStart => exact ⟨0, 0, rfl, ⟨rfl, rfl⟩, HOW, HBW⟩
      case round =>
       clear HOW HBW k0 k1 k2 k3
       obtain ⟨m, i, rfl, HN2, HO, HB⟩ := hrel
       have hm : m = 4 ∨ m = 0 ∨ m = 1 ∨ m = 2 ∨ m = 3 := by have := HN2.out.1; omega
       rcases hm with rfl | hm
       ·obtain rfl : i = 4 := by have := HN2.out.2; omega
        have hfin : setsT X 1 (b4 q0 q1 q2 q3) 4 = colsT b4 Y 2 := by rw [← hq0.out, ← hq1.out, ← hq2.out, ← hq3.out, hX.out]; rfl
        rw [hfin] at HO
        clear hfin
        go_wp2
        go_roundg 2
        case measure => decide
        case rel => exact ⟨2, 2, rfl, ⟨by decide, by decide⟩, HO, HB⟩
       rcases hm with rfl | hm
       ·obtain rfl : i = 0 := by have := HN2.out.2; omega
        obtain rfl : gk = 4 := by have := HN2.out.1; omega
        obtain ⟨hx0, hf0⟩ : wr.cell? ⟨go, 1, none⟩ = some (.int .i64 (rd (setsT X 1 (b4 q0 q1 q2 q3) 0) 1)) ∧ wr.frozen? ⟨go, 1, none⟩ = false := Kd.R_celln 0 HO.out 1 (by decide) (by decide)
        have HO5 := Aside0.mk (Kd.R_putg HO.out 1 ((b4 q0 q1 q2 q3).1)).1
        have HB5 := Aside0.mk (below_set (j := 1) (v := .int .i64 (b4 q0 q1 q2 q3).1) HB.out gb)
        have e1 : IntKind.i64.wrap (4 * 0) = 0 := rfl
        have g1 : IntKind.i64.wrap 0 = 0 := rfl
        have e2 : IntKind.i64.wrap (1 + 0) = 1 := rfl
        have g2 : IntKind.i64.wrap 1 = 1 := rfl
        have hix : ∀ W, (Instr.index 150 (.agg #[.int .i64 (b4 q0 q1 q2 q3).1, .int .i64 (b4 q0 q1 q2 q3).2.1, .int .i64 (b4 q0 q1 q2 q3).2.2.1, .int .i64 (b4 q0 q1 q2 q3).2.2.2]) (.int .i64 0)).run Try.prog W = .ok (.int .i64 (b4 q0 q1 q2 q3).1) W := fun W => (index4 W _ _ _ _).1
        go_wp2
        go_roundg 3
        case measure => decide
        case rel => exact ⟨1, 1, rfl, ⟨by decide, by decide⟩, HO5, HB5⟩
       rcases hm with rfl | hm
       ·obtain rfl : i = 1 := by have := HN2.out.2; omega
        obtain rfl : gk = 3 := by have := HN2.out.1; omega
        obtain ⟨hx0, hf0⟩ : wr.cell? ⟨go, 5, none⟩ = some (.int .i64 (rd (setsT X 1 (b4 q0 q1 q2 q3) 1) 5)) ∧ wr.frozen? ⟨go, 5, none⟩ = false := Kd.R_celln 0 HO.out 5 (by decide) (by decide)
        have HO5 := Aside0.mk (Kd.R_putg HO.out 5 ((b4 q0 q1 q2 q3).2.1)).1
        have HB5 := Aside0.mk (below_set (j := 5) (v := .int .i64 (b4 q0 q1 q2 q3).2.1) HB.out gb)
        have e1 : IntKind.i64.wrap (4 * 1) = 4 := rfl
        have g1 : IntKind.i64.wrap 4 = 4 := rfl
        have e2 : IntKind.i64.wrap (1 + 4) = 5 := rfl
        have g2 : IntKind.i64.wrap 5 = 5 := rfl
        have hix : ∀ W, (Instr.index 150 (.agg #[.int .i64 (b4 q0 q1 q2 q3).1, .int .i64 (b4 q0 q1 q2 q3).2.1, .int .i64 (b4 q0 q1 q2 q3).2.2.1, .int .i64 (b4 q0 q1 q2 q3).2.2.2]) (.int .i64 1)).run Try.prog W = .ok (.int .i64 (b4 q0 q1 q2 q3).2.1) W := fun W => (index4 W _ _ _ _).2.1
        go_wp2
        go_roundg 2
        case measure => decide
        case rel => exact ⟨2, 2, rfl, ⟨by decide, by decide⟩, HO5, HB5⟩
       rcases hm with rfl | hm
       ·obtain rfl : i = 2 := by have := HN2.out.2; omega
        obtain rfl : gk = 2 := by have := HN2.out.1; omega
        obtain ⟨hx0, hf0⟩ : wr.cell? ⟨go, 9, none⟩ = some (.int .i64 (rd (setsT X 1 (b4 q0 q1 q2 q3) 2) 9)) ∧ wr.frozen? ⟨go, 9, none⟩ = false := Kd.R_celln 0 HO.out 9 (by decide) (by decide)
        have HO5 := Aside0.mk (Kd.R_putg HO.out 9 ((b4 q0 q1 q2 q3).2.2.1)).1
        have HB5 := Aside0.mk (below_set (j := 9) (v := .int .i64 (b4 q0 q1 q2 q3).2.2.1) HB.out gb)
        have e1 : IntKind.i64.wrap (4 * 2) = 8 := rfl
        have g1 : IntKind.i64.wrap 8 = 8 := rfl
        have e2 : IntKind.i64.wrap (1 + 8) = 9 := rfl
        have g2 : IntKind.i64.wrap 9 = 9 := rfl
        have hix : ∀ W, (Instr.index 150 (.agg #[.int .i64 (b4 q0 q1 q2 q3).1, .int .i64 (b4 q0 q1 q2 q3).2.1, .int .i64 (b4 q0 q1 q2 q3).2.2.1, .int .i64 (b4 q0 q1 q2 q3).2.2.2]) (.int .i64 2)).run Try.prog W = .ok (.int .i64 (b4 q0 q1 q2 q3).2.2.1) W := fun W => (index4 W _ _ _ _).2.2.1
        go_wp2
        go_roundg 1
        case measure => decide
        case rel => exact ⟨3, 3, rfl, ⟨by decide, by decide⟩, HO5, HB5⟩
       obtain rfl := hm
       ·obtain rfl : i = 3 := by have := HN2.out.2; omega
        obtain rfl : gk = 1 := by have := HN2.out.1; omega
        obtain ⟨hx0, hf0⟩ : wr.cell? ⟨go, 13, none⟩ = some (.int .i64 (rd (setsT X 1 (b4 q0 q1 q2 q3) 3) 13)) ∧ wr.frozen? ⟨go, 13, none⟩ = false := Kd.R_celln 0 HO.out 13 (by decide) (by decide)
        have HO5 := Aside0.mk (Kd.R_putg HO.out 13 ((b4 q0 q1 q2 q3).2.2.2)).1
        have HB5 := Aside0.mk (below_set (j := 13) (v := .int .i64 (b4 q0 q1 q2 q3).2.2.2) HB.out gb)
        have e1 : IntKind.i64.wrap (4 * 3) = 12 := rfl
        have g1 : IntKind.i64.wrap 12 = 12 := rfl
        have e2 : IntKind.i64.wrap (1 + 12) = 13 := rfl
        have g2 : IntKind.i64.wrap 13 = 13 := rfl
        have hix : ∀ W, (Instr.index 150 (.agg #[.int .i64 (b4 q0 q1 q2 q3).1, .int .i64 (b4 q0 q1 q2 q3).2.1, .int .i64 (b4 q0 q1 q2 q3).2.2.1, .int .i64 (b4 q0 q1 q2 q3).2.2.2]) (.int .i64 3)).run Try.prog W = .ok (.int .i64 (b4 q0 q1 q2 q3).2.2.2) W := fun W => (index4 W _ _ _ _).2.2.2
        go_wp2
        go_roundg 0
        case measure => decide
        case rel => exact ⟨4, 4, rfl, ⟨by decide, by decide⟩, HO5, HB5⟩
    rcases hn with rfl | hn
    ·obtain rfl : gk = 2 := by have := HM.out.1; omega
     obtain rfl : c = 2 := by have := HM.out.2; omega
     obtain ⟨X, hX⟩ : ∃ X, X = colsT b4 Y 2 := ⟨_, rfl⟩
     rw [← hX] at HO
     replace hX := Aside0.mk hX
     have hx0 : wr.cell? ⟨go, 2, none⟩ = some (.int .i64 (rd X 2)) := (Kd.R_celln 0 HO.out 2 (by decide) (by decide)).1
     have hx1 : wr.cell? ⟨go, 6, none⟩ = some (.int .i64 (rd X 6)) := (Kd.R_celln 0 HO.out 6 (by decide) (by decide)).1
     have hx2 : wr.cell? ⟨go, 10, none⟩ = some (.int .i64 (rd X 10)) := (Kd.R_celln 0 HO.out 10 (by decide) (by decide)).1
     have hx3 : wr.cell? ⟨go, 14, none⟩ = some (.int .i64 (rd X 14)) := (Kd.R_celln 0 HO.out 14 (by decide) (by decide)).1
     generalize hq0 : rd X 2 = q0 at hx0
     generalize hq1 : rd X 6 = q1 at hx1
     generalize hq2 : rd X 10 = q2 at hx2
     generalize hq3 : rd X 14 = q3 at hx3
     replace hq0 := Aside0.mk hq0
     replace hq1 := Aside0.mk hq1
     replace hq2 := Aside0.mk hq2
     replace hq3 := Aside0.mk hq3
     have hd0 : wr.drew.cell? ⟨go, 2, none⟩ = some (.int .i64 q0) := hx0
     have hd1 : wr.drew.cell? ⟨go, 6, none⟩ = some (.int .i64 q1) := hx1
     have hd2 : wr.drew.cell? ⟨go, 10, none⟩ = some (.int .i64 q2) := hx2
     have hd3 : wr.drew.cell? ⟨go, 14, none⟩ = some (.int .i64 q3) := hx3
     have e1 : IntKind.i64.wrap (2 + 4) = 6 := rfl
     have g1 : IntKind.i64.wrap 6 = 6 := rfl
     have e2 : IntKind.i64.wrap (2 + 8) = 10 := rfl
     have g2 : IntKind.i64.wrap 10 = 10 := rfl
     have e3 : IntKind.i64.wrap (2 + 12) = 14 := rfl
     have g3 : IntKind.i64.wrap 14 = 14 := rfl
     have hlt := World.block_lt_of_cell? wr _ hx0
     have hne : ¬ (wr.heap.size = go) := by simp at hlt; omega
     go_wp2
     refine share4 (G := ?G3) (fun tail_ => ?main3) ?tail3
     case main3 =>
      go_region_held3 (fun W => W.cell? ⟨go, 2, none⟩ = some (.int .i64 q0) ∧ W.cell? ⟨go, 6, none⟩ = some (.int .i64 q1) ∧ W.cell? ⟨go, 10, none⟩ = some (.int .i64 q2) ∧ W.cell? ⟨go, 14, none⟩ = some (.int .i64 q3)) ((with_reducible ((repeat' apply And.intro) <;> (first | exact hd0 | exact (hb2.cell (World.block_lt_of_cell? _ _ hx0)).trans hx0 | exact ((below_alloc hb2 _).cell (World.block_lt_of_cell? _ _ hx0)).trans hx0 | exact ((below_drew (below_alloc (Below.refl _ _) _)).cell (World.block_lt_of_cell? _ _ hx0)).trans hx0 | exact hd1 | exact (hb2.cell (World.block_lt_of_cell? _ _ hx1)).trans hx1 | exact ((below_alloc hb2 _).cell (World.block_lt_of_cell? _ _ hx1)).trans hx1 | exact ((below_drew (below_alloc (Below.refl _ _) _)).cell (World.block_lt_of_cell? _ _ hx1)).trans hx1 | exact hd2 | exact (hb2.cell (World.block_lt_of_cell? _ _ hx2)).trans hx2 | exact ((below_alloc hb2 _).cell (World.block_lt_of_cell? _ _ hx2)).trans hx2 | exact ((below_drew (below_alloc (Below.refl _ _) _)).cell (World.block_lt_of_cell? _ _ hx2)).trans hx2 | exact hd3 | exact (hb2.cell (World.block_lt_of_cell? _ _ hx3)).trans hx3 | exact ((below_alloc hb2 _).cell (World.block_lt_of_cell? _ _ hx3)).trans hx3 | exact ((below_drew (below_alloc (Below.refl _ _) _)).cell (World.block_lt_of_cell? _ _ hx3)).trans hx3 | (refine Eq.trans (World.cell?_setCell_other _ _ _ _ (fun e_ => absurd (congrArg Addr.block e_) hne)) ?_; refine Eq.trans (World.cell?_setCell_other _ _ _ _ (fun e_ => absurd (congrArg Addr.block e_) hne)) ?_; refine Eq.trans (World.cell?_setCell_other _ _ _ _ (fun e_ => absurd (congrArg Addr.block e_) hne)) ?_; refine Eq.trans (World.cell?_setCell_other _ _ _ _ (fun e_ => absurd (congrArg Addr.block e_) hne)) ?_; first | exact (hb2.cell (World.block_lt_of_cell? _ _ hx0)).trans hx0 | exact (hb2.cell (World.block_lt_of_cell? _ _ hx1)).trans hx1 | exact (hb2.cell (World.block_lt_of_cell? _ _ hx2)).trans hx2 | exact (hb2.cell (World.block_lt_of_cell? _ _ hx3)).trans hx3))))) (first | (go_at_call 154; refine (b4.calls _ _ _ _ _).mono ?_; rintro e w2 ⟨rfl, hb2⟩; (first | (have hz : w2.heap[wr.heap.size]? = some (.cells #[.int .i64 0, .int .i64 0, .int .i64 0, .int .i64 0] 150) := (hb2.block wr.heap.size (by simp)).trans (heap_alloc_new wr.drew _); have hc0 : w2.cell? ⟨wr.heap.size, 0, none⟩ = some (.int .i64 0) := (by simp [World.cell?, hz]); have hf0 : w2.frozen? ⟨wr.heap.size, 0, none⟩ = false := (by simp [World.frozen?, hz]); have hc1 : w2.cell? ⟨wr.heap.size, 1, none⟩ = some (.int .i64 0) := (by simp [World.cell?, hz]); have hf1 : w2.frozen? ⟨wr.heap.size, 1, none⟩ = false := (by simp [World.frozen?, hz]); have hc2 : w2.cell? ⟨wr.heap.size, 2, none⟩ = some (.int .i64 0) := (by simp [World.cell?, hz]); have hf2 : w2.frozen? ⟨wr.heap.size, 2, none⟩ = false := (by simp [World.frozen?, hz]); have hc3 : w2.cell? ⟨wr.heap.size, 3, none⟩ = some (.int .i64 0) := (by simp [World.cell?, hz]); have hf3 : w2.frozen? ⟨wr.heap.size, 3, none⟩ = false := (by simp [World.frozen?, hz]); clear hz; replace hb2 : Below wr.heap.size wr w2 := below_step (below_drew (below_alloc (Below.refl wr.heap.size wr) _)) hb2) | (replace hb2 : Below wr.heap.size wr w2 := below_step (below_drew (Below.refl wr.heap.size wr)) hb2))))
      ·have hB4 : Below wr.heap.size wr (w2.alloc (.cells #[.int .i64 (b4 q0 q1 q2 q3).1, .int .i64 (b4 q0 q1 q2 q3).2.1, .int .i64 (b4 q0 q1 q2 q3).2.2.1, .int .i64 (b4 q0 q1 q2 q3).2.2.2] 150)) := below_alloc hb2 _
       have hn4 : Aside0 (w2.heap.size ≠ go) := ⟨by have := hb2.size; have h2_ := World.block_lt_of_cell? wr _ hx0; simp at this h2_; omega⟩
       have HOW : Aside0 (Kd.R (Kd.int .i64) 3 (w2.alloc (.cells #[.int .i64 (b4 q0 q1 q2 q3).1, .int .i64 (b4 q0 q1 q2 q3).2.1, .int .i64 (b4 q0 q1 q2 q3).2.2.1, .int .i64 (b4 q0 q1 q2 q3).2.2.2] 150)) w.heap.size (fun _ => True) (.slice (some ⟨go, 0, none⟩) 16 co) X) := ⟨Kd.R_below HO.out hB4⟩
       have HBW : Aside0 (Below w.heap.size w (w2.alloc (.cells #[.int .i64 (b4 q0 q1 q2 q3).1, .int .i64 (b4 q0 q1 q2 q3).2.1, .int .i64 (b4 q0 q1 q2 q3).2.2.1, .int .i64 (b4 q0 q1 q2 q3).2.2.2] 150))) := ⟨below_step HB.out hB4⟩
       obtain ⟨k0, k1, k2, k3⟩ := new4 w2 (.int .i64 (b4 q0 q1 q2 q3).1) (.int .i64 (b4 q0 q1 q2 q3).2.1) (.int .i64 (b4 q0 q1 q2 q3).2.2.1) (.int .i64 (b4 q0 q1 q2 q3).2.2.2)
       revert HOW HBW hn4 k0 k1 k2 k3
       generalize w2.alloc _ = W4
       generalize w2.heap.size = bk4
       intro hn4 HOW HBW k0 k1 k2 k3
       revert hn4 HOW HBW k0 k1 k2 k3
       revert bk4
       revert W4
       exact tail_
      ·have hB4 : Below wr.heap.size wr ((((w2.setCell ⟨wr.heap.size, 0, none⟩ (.int .i64 (b4 q0 q1 q2 q3).1)).setCell ⟨wr.heap.size, 1, none⟩ (.int .i64 (b4 q0 q1 q2 q3).2.1)).setCell ⟨wr.heap.size, 2, none⟩ (.int .i64 (b4 q0 q1 q2 q3).2.2.1)).setCell ⟨wr.heap.size, 3, none⟩ (.int .i64 (b4 q0 q1 q2 q3).2.2.2)) := below_set (below_set (below_set (below_set hb2 (Nat.le_refl _)) (Nat.le_refl _)) (Nat.le_refl _)) (Nat.le_refl _)
       have hn4 : Aside0 (wr.heap.size ≠ go) := ⟨hne⟩
       have HOW : Aside0 (Kd.R (Kd.int .i64) 3 ((((w2.setCell ⟨wr.heap.size, 0, none⟩ (.int .i64 (b4 q0 q1 q2 q3).1)).setCell ⟨wr.heap.size, 1, none⟩ (.int .i64 (b4 q0 q1 q2 q3).2.1)).setCell ⟨wr.heap.size, 2, none⟩ (.int .i64 (b4 q0 q1 q2 q3).2.2.1)).setCell ⟨wr.heap.size, 3, none⟩ (.int .i64 (b4 q0 q1 q2 q3).2.2.2)) w.heap.size (fun _ => True) (.slice (some ⟨go, 0, none⟩) 16 co) X) := ⟨Kd.R_below HO.out hB4⟩
       have HBW : Aside0 (Below w.heap.size w ((((w2.setCell ⟨wr.heap.size, 0, none⟩ (.int .i64 (b4 q0 q1 q2 q3).1)).setCell ⟨wr.heap.size, 1, none⟩ (.int .i64 (b4 q0 q1 q2 q3).2.1)).setCell ⟨wr.heap.size, 2, none⟩ (.int .i64 (b4 q0 q1 q2 q3).2.2.1)).setCell ⟨wr.heap.size, 3, none⟩ (.int .i64 (b4 q0 q1 q2 q3).2.2.2))) := ⟨below_step HB.out hB4⟩
       obtain ⟨k0, k1, k2, k3⟩ := set4 w2 wr.heap.size _ _ _ _ (.int .i64 (b4 q0 q1 q2 q3).1) (.int .i64 (b4 q0 q1 q2 q3).2.1) (.int .i64 (b4 q0 q1 q2 q3).2.2.1) (.int .i64 (b4 q0 q1 q2 q3).2.2.2) hc0 hc1 hc2 hc3
       revert HOW HBW hn4 k0 k1 k2 k3
       generalize ((((w2.setCell ⟨wr.heap.size, 0, none⟩ (.int .i64 (b4 q0 q1 q2 q3).1)).setCell ⟨wr.heap.size, 1, none⟩ (.int .i64 (b4 q0 q1 q2 q3).2.1)).setCell ⟨wr.heap.size, 2, none⟩ (.int .i64 (b4 q0 q1 q2 q3).2.2.1)).setCell ⟨wr.heap.size, 3, none⟩ (.int .i64 (b4 q0 q1 q2 q3).2.2.2)) = W4
       generalize wr.heap.size = bk4
       intro hn4 HOW HBW k0 k1 k2 k3
       revert hn4 HOW HBW k0 k1 k2 k3
       revert bk4
       revert W4
       exact tail_
     case tail3 =>
      intro W4 bk4 hn4 HOW HBW k0 k1 k2 k3
      clear hx0 hx1 hx2 hx3 hd0 hd1 hd2 hd3 hne hlt HO HB
      go_wp2
      go_loopg [71] 4 (fun kq v71 w' => ∃ (m : Nat) (i : Int), v71 = .int .i64 i ∧ Aside0 (kq + m = 4 ∧ i = m) ∧ Aside0 (Kd.R (Kd.int .i64) 3 w' w.heap.size (fun _ => True) (.slice (some ⟨go, 0, none⟩) 16 co) (setsT X 2 (b4 q0 q1 q2 q3) m)) ∧ Aside0 (Below w.heap.size w w'))
      case atStart => exact ⟨0, 0, rfl, ⟨rfl, rfl⟩, HOW, HBW⟩
      case round =>
       clear HOW HBW k0 k1 k2 k3
       obtain ⟨m, i, rfl, HN2, HO, HB⟩ := hrel
       have hm : m = 4 ∨ m = 0 ∨ m = 1 ∨ m = 2 ∨ m = 3 := by have := HN2.out.1; omega
       rcases hm with rfl | hm
       ·obtain rfl : i = 4 := by have := HN2.out.2; omega
        have hfin : setsT X 2 (b4 q0 q1 q2 q3) 4 = colsT b4 Y 3 := by rw [← hq0.out, ← hq1.out, ← hq2.out, ← hq3.out, hX.out]; rfl
        rw [hfin] at HO
        clear hfin
        go_wp2
        go_roundg 1
        case measure => decide
        case rel => exact ⟨3, 3, rfl, ⟨by decide, by decide⟩, HO, HB⟩
       rcases hm with rfl | hm
       ·obtain rfl : i = 0 := by have := HN2.out.2; omega
        obtain rfl : gk = 4 := by have := HN2.out.1; omega
        obtain ⟨hx0, hf0⟩ : wr.cell? ⟨go, 2, none⟩ = some (.int .i64 (rd (setsT X 2 (b4 q0 q1 q2 q3) 0) 2)) ∧ wr.frozen? ⟨go, 2, none⟩ = false := Kd.R_celln 0 HO.out 2 (by decide) (by decide)
        have HO5 := Aside0.mk (Kd.R_putg HO.out 2 ((b4 q0 q1 q2 q3).1)).1
        have HB5 := Aside0.mk (below_set (j := 2) (v := .int .i64 (b4 q0 q1 q2 q3).1) HB.out gb)
        have e1 : IntKind.i64.wrap (4 * 0) = 0 := rfl
        have g1 : IntKind.i64.wrap 0 = 0 := rfl
        have e2 : IntKind.i64.wrap (2 + 0) = 2 := rfl
        have g2 : IntKind.i64.wrap 2 = 2 := rfl
        have hix : ∀ W, (Instr.index 150 (.agg #[.int .i64 (b4 q0 q1 q2 q3).1, .int .i64 (b4 q0 q1 q2 q3).2.1, .int .i64 (b4 q0 q1 q2 q3).2.2.1, .int .i64 (b4 q0 q1 q2 q3).2.2.2]) (.int .i64 0)).run Try.prog W = .ok (.int .i64 (b4 q0 q1 q2 q3).1) W := fun W => (index4 W _ _ _ _).1
        go_wp2
        go_roundg 3
        case measure => decide
        case rel => exact ⟨1, 1, rfl, ⟨by decide, by decide⟩, HO5, HB5⟩
       rcases hm with rfl | hm
       ·obtain rfl : i = 1 := by have := HN2.out.2; omega
        obtain rfl : gk = 3 := by have := HN2.out.1; omega
        obtain ⟨hx0, hf0⟩ : wr.cell? ⟨go, 6, none⟩ = some (.int .i64 (rd (setsT X 2 (b4 q0 q1 q2 q3) 1) 6)) ∧ wr.frozen? ⟨go, 6, none⟩ = false := Kd.R_celln 0 HO.out 6 (by decide) (by decide)
        have HO5 := Aside0.mk (Kd.R_putg HO.out 6 ((b4 q0 q1 q2 q3).2.1)).1
        have HB5 := Aside0.mk (below_set (j := 6) (v := .int .i64 (b4 q0 q1 q2 q3).2.1) HB.out gb)
        have e1 : IntKind.i64.wrap (4 * 1) = 4 := rfl
        have g1 : IntKind.i64.wrap 4 = 4 := rfl
        have e2 : IntKind.i64.wrap (2 + 4) = 6 := rfl
        have g2 : IntKind.i64.wrap 6 = 6 := rfl
        have hix : ∀ W, (Instr.index 150 (.agg #[.int .i64 (b4 q0 q1 q2 q3).1, .int .i64 (b4 q0 q1 q2 q3).2.1, .int .i64 (b4 q0 q1 q2 q3).2.2.1, .int .i64 (b4 q0 q1 q2 q3).2.2.2]) (.int .i64 1)).run Try.prog W = .ok (.int .i64 (b4 q0 q1 q2 q3).2.1) W := fun W => (index4 W _ _ _ _).2.1
        go_wp2
        go_roundg 2
        case measure => decide
        case rel => exact ⟨2, 2, rfl, ⟨by decide, by decide⟩, HO5, HB5⟩
       rcases hm with rfl | hm
       ·obtain rfl : i = 2 := by have := HN2.out.2; omega
        obtain rfl : gk = 2 := by have := HN2.out.1; omega
        obtain ⟨hx0, hf0⟩ : wr.cell? ⟨go, 10, none⟩ = some (.int .i64 (rd (setsT X 2 (b4 q0 q1 q2 q3) 2) 10)) ∧ wr.frozen? ⟨go, 10, none⟩ = false := Kd.R_celln 0 HO.out 10 (by decide) (by decide)
        have HO5 := Aside0.mk (Kd.R_putg HO.out 10 ((b4 q0 q1 q2 q3).2.2.1)).1
        have HB5 := Aside0.mk (below_set (j := 10) (v := .int .i64 (b4 q0 q1 q2 q3).2.2.1) HB.out gb)
        have e1 : IntKind.i64.wrap (4 * 2) = 8 := rfl
        have g1 : IntKind.i64.wrap 8 = 8 := rfl
        have e2 : IntKind.i64.wrap (2 + 8) = 10 := rfl
        have g2 : IntKind.i64.wrap 10 = 10 := rfl
        have hix : ∀ W, (Instr.index 150 (.agg #[.int .i64 (b4 q0 q1 q2 q3).1, .int .i64 (b4 q0 q1 q2 q3).2.1, .int .i64 (b4 q0 q1 q2 q3).2.2.1, .int .i64 (b4 q0 q1 q2 q3).2.2.2]) (.int .i64 2)).run Try.prog W = .ok (.int .i64 (b4 q0 q1 q2 q3).2.2.1) W := fun W => (index4 W _ _ _ _).2.2.1
        go_wp2
        go_roundg 1
        case measure => decide
        case rel => exact ⟨3, 3, rfl, ⟨by decide, by decide⟩, HO5, HB5⟩
       obtain rfl := hm
       ·obtain rfl : i = 3 := by have := HN2.out.2; omega
        obtain rfl : gk = 1 := by have := HN2.out.1; omega
        obtain ⟨hx0, hf0⟩ : wr.cell? ⟨go, 14, none⟩ = some (.int .i64 (rd (setsT X 2 (b4 q0 q1 q2 q3) 3) 14)) ∧ wr.frozen? ⟨go, 14, none⟩ = false := Kd.R_celln 0 HO.out 14 (by decide) (by decide)
        have HO5 := Aside0.mk (Kd.R_putg HO.out 14 ((b4 q0 q1 q2 q3).2.2.2)).1
        have HB5 := Aside0.mk (below_set (j := 14) (v := .int .i64 (b4 q0 q1 q2 q3).2.2.2) HB.out gb)
        have e1 : IntKind.i64.wrap (4 * 3) = 12 := rfl
        have g1 : IntKind.i64.wrap 12 = 12 := rfl
        have e2 : IntKind.i64.wrap (2 + 12) = 14 := rfl
        have g2 : IntKind.i64.wrap 14 = 14 := rfl
        have hix : ∀ W, (Instr.index 150 (.agg #[.int .i64 (b4 q0 q1 q2 q3).1, .int .i64 (b4 q0 q1 q2 q3).2.1, .int .i64 (b4 q0 q1 q2 q3).2.2.1, .int .i64 (b4 q0 q1 q2 q3).2.2.2]) (.int .i64 3)).run Try.prog W = .ok (.int .i64 (b4 q0 q1 q2 q3).2.2.2) W := fun W => (index4 W _ _ _ _).2.2.2
        go_wp2
        go_roundg 0
        case measure => decide
        case rel => exact ⟨4, 4, rfl, ⟨by decide, by decide⟩, HO5, HB5⟩
    obtain rfl := hn
    ·obtain rfl : gk = 1 := by have := HM.out.1; omega
     obtain rfl : c = 3 := by have := HM.out.2; omega
     obtain ⟨X, hX⟩ : ∃ X, X = colsT b4 Y 3 := ⟨_, rfl⟩
     rw [← hX] at HO
     replace hX := Aside0.mk hX
     have hx0 : wr.cell? ⟨go, 3, none⟩ = some (.int .i64 (rd X 3)) := (Kd.R_celln 0 HO.out 3 (by decide) (by decide)).1
     have hx1 : wr.cell? ⟨go, 7, none⟩ = some (.int .i64 (rd X 7)) := (Kd.R_celln 0 HO.out 7 (by decide) (by decide)).1
     have hx2 : wr.cell? ⟨go, 11, none⟩ = some (.int .i64 (rd X 11)) := (Kd.R_celln 0 HO.out 11 (by decide) (by decide)).1
     have hx3 : wr.cell? ⟨go, 15, none⟩ = some (.int .i64 (rd X 15)) := (Kd.R_celln 0 HO.out 15 (by decide) (by decide)).1
     generalize hq0 : rd X 3 = q0 at hx0
     generalize hq1 : rd X 7 = q1 at hx1
     generalize hq2 : rd X 11 = q2 at hx2
     generalize hq3 : rd X 15 = q3 at hx3
     replace hq0 := Aside0.mk hq0
     replace hq1 := Aside0.mk hq1
     replace hq2 := Aside0.mk hq2
     replace hq3 := Aside0.mk hq3
     have hd0 : wr.drew.cell? ⟨go, 3, none⟩ = some (.int .i64 q0) := hx0
     have hd1 : wr.drew.cell? ⟨go, 7, none⟩ = some (.int .i64 q1) := hx1
     have hd2 : wr.drew.cell? ⟨go, 11, none⟩ = some (.int .i64 q2) := hx2
     have hd3 : wr.drew.cell? ⟨go, 15, none⟩ = some (.int .i64 q3) := hx3
     have e1 : IntKind.i64.wrap (3 + 4) = 7 := rfl
     have g1 : IntKind.i64.wrap 7 = 7 := rfl
     have e2 : IntKind.i64.wrap (3 + 8) = 11 := rfl
     have g2 : IntKind.i64.wrap 11 = 11 := rfl
     have e3 : IntKind.i64.wrap (3 + 12) = 15 := rfl
     have g3 : IntKind.i64.wrap 15 = 15 := rfl
     have hlt := World.block_lt_of_cell? wr _ hx0
     have hne : ¬ (wr.heap.size = go) := by simp at hlt; omega
     go_wp2
     refine share4 (G := ?G4) (fun tail_ => ?main4) ?tail4
     case main4 =>
      go_region_held3 (fun W => W.cell? ⟨go, 3, none⟩ = some (.int .i64 q0) ∧ W.cell? ⟨go, 7, none⟩ = some (.int .i64 q1) ∧ W.cell? ⟨go, 11, none⟩ = some (.int .i64 q2) ∧ W.cell? ⟨go, 15, none⟩ = some (.int .i64 q3)) ((with_reducible ((repeat' apply And.intro) <;> (first | exact hd0 | exact (hb2.cell (World.block_lt_of_cell? _ _ hx0)).trans hx0 | exact ((below_alloc hb2 _).cell (World.block_lt_of_cell? _ _ hx0)).trans hx0 | exact ((below_drew (below_alloc (Below.refl _ _) _)).cell (World.block_lt_of_cell? _ _ hx0)).trans hx0 | exact hd1 | exact (hb2.cell (World.block_lt_of_cell? _ _ hx1)).trans hx1 | exact ((below_alloc hb2 _).cell (World.block_lt_of_cell? _ _ hx1)).trans hx1 | exact ((below_drew (below_alloc (Below.refl _ _) _)).cell (World.block_lt_of_cell? _ _ hx1)).trans hx1 | exact hd2 | exact (hb2.cell (World.block_lt_of_cell? _ _ hx2)).trans hx2 | exact ((below_alloc hb2 _).cell (World.block_lt_of_cell? _ _ hx2)).trans hx2 | exact ((below_drew (below_alloc (Below.refl _ _) _)).cell (World.block_lt_of_cell? _ _ hx2)).trans hx2 | exact hd3 | exact (hb2.cell (World.block_lt_of_cell? _ _ hx3)).trans hx3 | exact ((below_alloc hb2 _).cell (World.block_lt_of_cell? _ _ hx3)).trans hx3 | exact ((below_drew (below_alloc (Below.refl _ _) _)).cell (World.block_lt_of_cell? _ _ hx3)).trans hx3 | (refine Eq.trans (World.cell?_setCell_other _ _ _ _ (fun e_ => absurd (congrArg Addr.block e_) hne)) ?_; refine Eq.trans (World.cell?_setCell_other _ _ _ _ (fun e_ => absurd (congrArg Addr.block e_) hne)) ?_; refine Eq.trans (World.cell?_setCell_other _ _ _ _ (fun e_ => absurd (congrArg Addr.block e_) hne)) ?_; refine Eq.trans (World.cell?_setCell_other _ _ _ _ (fun e_ => absurd (congrArg Addr.block e_) hne)) ?_; first | exact (hb2.cell (World.block_lt_of_cell? _ _ hx0)).trans hx0 | exact (hb2.cell (World.block_lt_of_cell? _ _ hx1)).trans hx1 | exact (hb2.cell (World.block_lt_of_cell? _ _ hx2)).trans hx2 | exact (hb2.cell (World.block_lt_of_cell? _ _ hx3)).trans hx3))))) (first | (go_at_call 154; refine (b4.calls _ _ _ _ _).mono ?_; rintro e w2 ⟨rfl, hb2⟩; (first | (have hz : w2.heap[wr.heap.size]? = some (.cells #[.int .i64 0, .int .i64 0, .int .i64 0, .int .i64 0] 150) := (hb2.block wr.heap.size (by simp)).trans (heap_alloc_new wr.drew _); have hc0 : w2.cell? ⟨wr.heap.size, 0, none⟩ = some (.int .i64 0) := (by simp [World.cell?, hz]); have hf0 : w2.frozen? ⟨wr.heap.size, 0, none⟩ = false := (by simp [World.frozen?, hz]); have hc1 : w2.cell? ⟨wr.heap.size, 1, none⟩ = some (.int .i64 0) := (by simp [World.cell?, hz]); have hf1 : w2.frozen? ⟨wr.heap.size, 1, none⟩ = false := (by simp [World.frozen?, hz]); have hc2 : w2.cell? ⟨wr.heap.size, 2, none⟩ = some (.int .i64 0) := (by simp [World.cell?, hz]); have hf2 : w2.frozen? ⟨wr.heap.size, 2, none⟩ = false := (by simp [World.frozen?, hz]); have hc3 : w2.cell? ⟨wr.heap.size, 3, none⟩ = some (.int .i64 0) := (by simp [World.cell?, hz]); have hf3 : w2.frozen? ⟨wr.heap.size, 3, none⟩ = false := (by simp [World.frozen?, hz]); clear hz; replace hb2 : Below wr.heap.size wr w2 := below_step (below_drew (below_alloc (Below.refl wr.heap.size wr) _)) hb2) | (replace hb2 : Below wr.heap.size wr w2 := below_step (below_drew (Below.refl wr.heap.size wr)) hb2))))
      ·have hB4 : Below wr.heap.size wr (w2.alloc (.cells #[.int .i64 (b4 q0 q1 q2 q3).1, .int .i64 (b4 q0 q1 q2 q3).2.1, .int .i64 (b4 q0 q1 q2 q3).2.2.1, .int .i64 (b4 q0 q1 q2 q3).2.2.2] 150)) := below_alloc hb2 _
       have hn4 : Aside0 (w2.heap.size ≠ go) := ⟨by have := hb2.size; have h2_ := World.block_lt_of_cell? wr _ hx0; simp at this h2_; omega⟩
       have HOW : Aside0 (Kd.R (Kd.int .i64) 3 (w2.alloc (.cells #[.int .i64 (b4 q0 q1 q2 q3).1, .int .i64 (b4 q0 q1 q2 q3).2.1, .int .i64 (b4 q0 q1 q2 q3).2.2.1, .int .i64 (b4 q0 q1 q2 q3).2.2.2] 150)) w.heap.size (fun _ => True) (.slice (some ⟨go, 0, none⟩) 16 co) X) := ⟨Kd.R_below HO.out hB4⟩
       have HBW : Aside0 (Below w.heap.size w (w2.alloc (.cells #[.int .i64 (b4 q0 q1 q2 q3).1, .int .i64 (b4 q0 q1 q2 q3).2.1, .int .i64 (b4 q0 q1 q2 q3).2.2.1, .int .i64 (b4 q0 q1 q2 q3).2.2.2] 150))) := ⟨below_step HB.out hB4⟩
       obtain ⟨k0, k1, k2, k3⟩ := new4 w2 (.int .i64 (b4 q0 q1 q2 q3).1) (.int .i64 (b4 q0 q1 q2 q3).2.1) (.int .i64 (b4 q0 q1 q2 q3).2.2.1) (.int .i64 (b4 q0 q1 q2 q3).2.2.2)
       revert HOW HBW hn4 k0 k1 k2 k3
       generalize w2.alloc _ = W4
       generalize w2.heap.size = bk4
       intro hn4 HOW HBW k0 k1 k2 k3
       revert hn4 HOW HBW k0 k1 k2 k3
       revert bk4
       revert W4
       exact tail_
      ·have hB4 : Below wr.heap.size wr ((((w2.setCell ⟨wr.heap.size, 0, none⟩ (.int .i64 (b4 q0 q1 q2 q3).1)).setCell ⟨wr.heap.size, 1, none⟩ (.int .i64 (b4 q0 q1 q2 q3).2.1)).setCell ⟨wr.heap.size, 2, none⟩ (.int .i64 (b4 q0 q1 q2 q3).2.2.1)).setCell ⟨wr.heap.size, 3, none⟩ (.int .i64 (b4 q0 q1 q2 q3).2.2.2)) := below_set (below_set (below_set (below_set hb2 (Nat.le_refl _)) (Nat.le_refl _)) (Nat.le_refl _)) (Nat.le_refl _)
       have hn4 : Aside0 (wr.heap.size ≠ go) := ⟨hne⟩
       have HOW : Aside0 (Kd.R (Kd.int .i64) 3 ((((w2.setCell ⟨wr.heap.size, 0, none⟩ (.int .i64 (b4 q0 q1 q2 q3).1)).setCell ⟨wr.heap.size, 1, none⟩ (.int .i64 (b4 q0 q1 q2 q3).2.1)).setCell ⟨wr.heap.size, 2, none⟩ (.int .i64 (b4 q0 q1 q2 q3).2.2.1)).setCell ⟨wr.heap.size, 3, none⟩ (.int .i64 (b4 q0 q1 q2 q3).2.2.2)) w.heap.size (fun _ => True) (.slice (some ⟨go, 0, none⟩) 16 co) X) := ⟨Kd.R_below HO.out hB4⟩
       have HBW : Aside0 (Below w.heap.size w ((((w2.setCell ⟨wr.heap.size, 0, none⟩ (.int .i64 (b4 q0 q1 q2 q3).1)).setCell ⟨wr.heap.size, 1, none⟩ (.int .i64 (b4 q0 q1 q2 q3).2.1)).setCell ⟨wr.heap.size, 2, none⟩ (.int .i64 (b4 q0 q1 q2 q3).2.2.1)).setCell ⟨wr.heap.size, 3, none⟩ (.int .i64 (b4 q0 q1 q2 q3).2.2.2))) := ⟨below_step HB.out hB4⟩
       obtain ⟨k0, k1, k2, k3⟩ := set4 w2 wr.heap.size _ _ _ _ (.int .i64 (b4 q0 q1 q2 q3).1) (.int .i64 (b4 q0 q1 q2 q3).2.1) (.int .i64 (b4 q0 q1 q2 q3).2.2.1) (.int .i64 (b4 q0 q1 q2 q3).2.2.2) hc0 hc1 hc2 hc3
       revert HOW HBW hn4 k0 k1 k2 k3
       generalize ((((w2.setCell ⟨wr.heap.size, 0, none⟩ (.int .i64 (b4 q0 q1 q2 q3).1)).setCell ⟨wr.heap.size, 1, none⟩ (.int .i64 (b4 q0 q1 q2 q3).2.1)).setCell ⟨wr.heap.size, 2, none⟩ (.int .i64 (b4 q0 q1 q2 q3).2.2.1)).setCell ⟨wr.heap.size, 3, none⟩ (.int .i64 (b4 q0 q1 q2 q3).2.2.2)) = W4
       generalize wr.heap.size = bk4
       intro hn4 HOW HBW k0 k1 k2 k3
       revert hn4 HOW HBW k0 k1 k2 k3
       revert bk4
       revert W4
       exact tail_
     case tail4 =>
      intro W4 bk4 hn4 HOW HBW k0 k1 k2 k3
      clear hx0 hx1 hx2 hx3 hd0 hd1 hd2 hd3 hne hlt HO HB
      go_wp2
      go_loopg [71] 4 (fun kq v71 w' => ∃ (m : Nat) (i : Int), v71 = .int .i64 i ∧ Aside0 (kq + m = 4 ∧ i = m) ∧ Aside0 (Kd.R (Kd.int .i64) 3 w' w.heap.size (fun _ => True) (.slice (some ⟨go, 0, none⟩) 16 co) (setsT X 3 (b4 q0 q1 q2 q3) m)) ∧ Aside0 (Below w.heap.size w w'))
      case atStart => exact ⟨0, 0, rfl, ⟨rfl, rfl⟩, HOW, HBW⟩
      case round =>
       clear HOW HBW k0 k1 k2 k3
       obtain ⟨m, i, rfl, HN2, HO, HB⟩ := hrel
       have hm : m = 4 ∨ m = 0 ∨ m = 1 ∨ m = 2 ∨ m = 3 := by have := HN2.out.1; omega
       rcases hm with rfl | hm
       ·obtain rfl : i = 4 := by have := HN2.out.2; omega
        have hfin : setsT X 3 (b4 q0 q1 q2 q3) 4 = colsT b4 Y 4 := by rw [← hq0.out, ← hq1.out, ← hq2.out, ← hq3.out, hX.out]; rfl
        rw [hfin] at HO
        clear hfin
        go_wp2
        go_roundg 0
        case measure => decide
        case rel => exact ⟨4, 4, rfl, ⟨by decide, by decide⟩, HO, HB⟩
       rcases hm with rfl | hm
       ·obtain rfl : i = 0 := by have := HN2.out.2; omega
        obtain rfl : gk = 4 := by have := HN2.out.1; omega
        obtain ⟨hx0, hf0⟩ : wr.cell? ⟨go, 3, none⟩ = some (.int .i64 (rd (setsT X 3 (b4 q0 q1 q2 q3) 0) 3)) ∧ wr.frozen? ⟨go, 3, none⟩ = false := Kd.R_celln 0 HO.out 3 (by decide) (by decide)
        have HO5 := Aside0.mk (Kd.R_putg HO.out 3 ((b4 q0 q1 q2 q3).1)).1
        have HB5 := Aside0.mk (below_set (j := 3) (v := .int .i64 (b4 q0 q1 q2 q3).1) HB.out gb)
        have e1 : IntKind.i64.wrap (4 * 0) = 0 := rfl
        have g1 : IntKind.i64.wrap 0 = 0 := rfl
        have e2 : IntKind.i64.wrap (3 + 0) = 3 := rfl
        have g2 : IntKind.i64.wrap 3 = 3 := rfl
        have hix : ∀ W, (Instr.index 150 (.agg #[.int .i64 (b4 q0 q1 q2 q3).1, .int .i64 (b4 q0 q1 q2 q3).2.1, .int .i64 (b4 q0 q1 q2 q3).2.2.1, .int .i64 (b4 q0 q1 q2 q3).2.2.2]) (.int .i64 0)).run Try.prog W = .ok (.int .i64 (b4 q0 q1 q2 q3).1) W := fun W => (index4 W _ _ _ _).1
        go_wp2
        go_roundg 3
        case measure => decide
        case rel => exact ⟨1, 1, rfl, ⟨by decide, by decide⟩, HO5, HB5⟩
       rcases hm with rfl | hm
       ·obtain rfl : i = 1 := by have := HN2.out.2; omega
        obtain rfl : gk = 3 := by have := HN2.out.1; omega
        obtain ⟨hx0, hf0⟩ : wr.cell? ⟨go, 7, none⟩ = some (.int .i64 (rd (setsT X 3 (b4 q0 q1 q2 q3) 1) 7)) ∧ wr.frozen? ⟨go, 7, none⟩ = false := Kd.R_celln 0 HO.out 7 (by decide) (by decide)
        have HO5 := Aside0.mk (Kd.R_putg HO.out 7 ((b4 q0 q1 q2 q3).2.1)).1
        have HB5 := Aside0.mk (below_set (j := 7) (v := .int .i64 (b4 q0 q1 q2 q3).2.1) HB.out gb)
        have e1 : IntKind.i64.wrap (4 * 1) = 4 := rfl
        have g1 : IntKind.i64.wrap 4 = 4 := rfl
        have e2 : IntKind.i64.wrap (3 + 4) = 7 := rfl
        have g2 : IntKind.i64.wrap 7 = 7 := rfl
        have hix : ∀ W, (Instr.index 150 (.agg #[.int .i64 (b4 q0 q1 q2 q3).1, .int .i64 (b4 q0 q1 q2 q3).2.1, .int .i64 (b4 q0 q1 q2 q3).2.2.1, .int .i64 (b4 q0 q1 q2 q3).2.2.2]) (.int .i64 1)).run Try.prog W = .ok (.int .i64 (b4 q0 q1 q2 q3).2.1) W := fun W => (index4 W _ _ _ _).2.1
        go_wp2
        go_roundg 2
        case measure => decide
        case rel => exact ⟨2, 2, rfl, ⟨by decide, by decide⟩, HO5, HB5⟩
       rcases hm with rfl | hm
       ·obtain rfl : i = 2 := by have := HN2.out.2; omega
        obtain rfl : gk = 2 := by have := HN2.out.1; omega
        obtain ⟨hx0, hf0⟩ : wr.cell? ⟨go, 11, none⟩ = some (.int .i64 (rd (setsT X 3 (b4 q0 q1 q2 q3) 2) 11)) ∧ wr.frozen? ⟨go, 11, none⟩ = false := Kd.R_celln 0 HO.out 11 (by decide) (by decide)
        have HO5 := Aside0.mk (Kd.R_putg HO.out 11 ((b4 q0 q1 q2 q3).2.2.1)).1
        have HB5 := Aside0.mk (below_set (j := 11) (v := .int .i64 (b4 q0 q1 q2 q3).2.2.1) HB.out gb)
        have e1 : IntKind.i64.wrap (4 * 2) = 8 := rfl
        have g1 : IntKind.i64.wrap 8 = 8 := rfl
        have e2 : IntKind.i64.wrap (3 + 8) = 11 := rfl
        have g2 : IntKind.i64.wrap 11 = 11 := rfl
        have hix : ∀ W, (Instr.index 150 (.agg #[.int .i64 (b4 q0 q1 q2 q3).1, .int .i64 (b4 q0 q1 q2 q3).2.1, .int .i64 (b4 q0 q1 q2 q3).2.2.1, .int .i64 (b4 q0 q1 q2 q3).2.2.2]) (.int .i64 2)).run Try.prog W = .ok (.int .i64 (b4 q0 q1 q2 q3).2.2.1) W := fun W => (index4 W _ _ _ _).2.2.1
        go_wp2
        go_roundg 1
        case measure => decide
        case rel => exact ⟨3, 3, rfl, ⟨by decide, by decide⟩, HO5, HB5⟩
       obtain rfl := hm
       ·obtain rfl : i = 3 := by have := HN2.out.2; omega
        obtain rfl : gk = 1 := by have := HN2.out.1; omega
        obtain ⟨hx0, hf0⟩ : wr.cell? ⟨go, 15, none⟩ = some (.int .i64 (rd (setsT X 3 (b4 q0 q1 q2 q3) 3) 15)) ∧ wr.frozen? ⟨go, 15, none⟩ = false := Kd.R_celln 0 HO.out 15 (by decide) (by decide)
        have HO5 := Aside0.mk (Kd.R_putg HO.out 15 ((b4 q0 q1 q2 q3).2.2.2)).1
        have HB5 := Aside0.mk (below_set (j := 15) (v := .int .i64 (b4 q0 q1 q2 q3).2.2.2) HB.out gb)
        have e1 : IntKind.i64.wrap (4 * 3) = 12 := rfl
        have g1 : IntKind.i64.wrap 12 = 12 := rfl
        have e2 : IntKind.i64.wrap (3 + 12) = 15 := rfl
        have g2 : IntKind.i64.wrap 15 = 15 := rfl
        have hix : ∀ W, (Instr.index 150 (.agg #[.int .i64 (b4 q0 q1 q2 q3).1, .int .i64 (b4 q0 q1 q2 q3).2.1, .int .i64 (b4 q0 q1 q2 q3).2.2.1, .int .i64 (b4 q0 q1 q2 q3).2.2.2]) (.int .i64 3)).run Try.prog W = .ok (.int .i64 (b4 q0 q1 q2 q3).2.2.2) W := fun W => (index4 W _ _ _ _).2.2.2
        go_wp2
        go_roundg 0
        case measure => decide
        case rel => exact ⟨4, 4, rfl, ⟨by decide, by decide⟩, HO5, HB5⟩
  rcases hn with rfl | hn
  ·obtain rfl : gk = 4 := by have := HN.out.1; omega
   obtain rfl : r = 0 := by have := HN.out.2; omega
   obtain ⟨X, hX⟩ : ∃ X, X = rowsT b4 l0 0 := ⟨_, rfl⟩
   rw [← hX] at HO
   replace hX := Aside0.mk hX
   have hx0 : wr.cell? ⟨go, 0, none⟩ = some (.int .i64 (rd X 0)) := (Kd.R_celln 0 HO.out 0 (by decide) (by decide)).1
   have hx1 : wr.cell? ⟨go, 1, none⟩ = some (.int .i64 (rd X 1)) := (Kd.R_celln 0 HO.out 1 (by decide) (by decide)).1
   have hx2 : wr.cell? ⟨go, 2, none⟩ = some (.int .i64 (rd X 2)) := (Kd.R_celln 0 HO.out 2 (by decide) (by decide)).1
   have hx3 : wr.cell? ⟨go, 3, none⟩ = some (.int .i64 (rd X 3)) := (Kd.R_celln 0 HO.out 3 (by decide) (by decide)).1
   generalize hq0 : rd X 0 = q0 at hx0
   generalize hq1 : rd X 1 = q1 at hx1
   generalize hq2 : rd X 2 = q2 at hx2
   generalize hq3 : rd X 3 = q3 at hx3
   replace hq0 := Aside0.mk hq0
   replace hq1 := Aside0.mk hq1
   replace hq2 := Aside0.mk hq2
   replace hq3 := Aside0.mk hq3
   have hd0 : wr.drew.cell? ⟨go, 0, none⟩ = some (.int .i64 q0) := hx0
   have hd1 : wr.drew.cell? ⟨go, 1, none⟩ = some (.int .i64 q1) := hx1
   have hd2 : wr.drew.cell? ⟨go, 2, none⟩ = some (.int .i64 q2) := hx2
   have hd3 : wr.drew.cell? ⟨go, 3, none⟩ = some (.int .i64 q3) := hx3
   have e1 : IntKind.i64.wrap (0 + 1) = 1 := rfl
   have g1 : IntKind.i64.wrap 1 = 1 := rfl
   have e2 : IntKind.i64.wrap (0 + 2) = 2 := rfl
   have g2 : IntKind.i64.wrap 2 = 2 := rfl
   have e3 : IntKind.i64.wrap (0 + 3) = 3 := rfl
   have g3 : IntKind.i64.wrap 3 = 3 := rfl
   have hlt := World.block_lt_of_cell? wr _ hx0
   have hne : ¬ (wr.heap.size = go) := by simp at hlt; omega
   go_wp2
   refine share4 (G := ?G5) (fun tail_ => ?main5) ?tail5
   case main5 =>
    go_region_held3 (fun W => W.cell? ⟨go, 0, none⟩ = some (.int .i64 q0) ∧ W.cell? ⟨go, 1, none⟩ = some (.int .i64 q1) ∧ W.cell? ⟨go, 2, none⟩ = some (.int .i64 q2) ∧ W.cell? ⟨go, 3, none⟩ = some (.int .i64 q3)) ((with_reducible ((repeat' apply And.intro) <;> (first | exact hd0 | exact (hb2.cell (World.block_lt_of_cell? _ _ hx0)).trans hx0 | exact ((below_alloc hb2 _).cell (World.block_lt_of_cell? _ _ hx0)).trans hx0 | exact ((below_drew (below_alloc (Below.refl _ _) _)).cell (World.block_lt_of_cell? _ _ hx0)).trans hx0 | exact hd1 | exact (hb2.cell (World.block_lt_of_cell? _ _ hx1)).trans hx1 | exact ((below_alloc hb2 _).cell (World.block_lt_of_cell? _ _ hx1)).trans hx1 | exact ((below_drew (below_alloc (Below.refl _ _) _)).cell (World.block_lt_of_cell? _ _ hx1)).trans hx1 | exact hd2 | exact (hb2.cell (World.block_lt_of_cell? _ _ hx2)).trans hx2 | exact ((below_alloc hb2 _).cell (World.block_lt_of_cell? _ _ hx2)).trans hx2 | exact ((below_drew (below_alloc (Below.refl _ _) _)).cell (World.block_lt_of_cell? _ _ hx2)).trans hx2 | exact hd3 | exact (hb2.cell (World.block_lt_of_cell? _ _ hx3)).trans hx3 | exact ((below_alloc hb2 _).cell (World.block_lt_of_cell? _ _ hx3)).trans hx3 | exact ((below_drew (below_alloc (Below.refl _ _) _)).cell (World.block_lt_of_cell? _ _ hx3)).trans hx3 | (refine Eq.trans (World.cell?_setCell_other _ _ _ _ (fun e_ => absurd (congrArg Addr.block e_) hne)) ?_; refine Eq.trans (World.cell?_setCell_other _ _ _ _ (fun e_ => absurd (congrArg Addr.block e_) hne)) ?_; refine Eq.trans (World.cell?_setCell_other _ _ _ _ (fun e_ => absurd (congrArg Addr.block e_) hne)) ?_; refine Eq.trans (World.cell?_setCell_other _ _ _ _ (fun e_ => absurd (congrArg Addr.block e_) hne)) ?_; first | exact (hb2.cell (World.block_lt_of_cell? _ _ hx0)).trans hx0 | exact (hb2.cell (World.block_lt_of_cell? _ _ hx1)).trans hx1 | exact (hb2.cell (World.block_lt_of_cell? _ _ hx2)).trans hx2 | exact (hb2.cell (World.block_lt_of_cell? _ _ hx3)).trans hx3))))) (first | (go_at_call 154; refine (b4.calls _ _ _ _ _).mono ?_; rintro e w2 ⟨rfl, hb2⟩; (first | (have hz : w2.heap[wr.heap.size]? = some (.cells #[.int .i64 0, .int .i64 0, .int .i64 0, .int .i64 0] 150) := (hb2.block wr.heap.size (by simp)).trans (heap_alloc_new wr.drew _); have hc0 : w2.cell? ⟨wr.heap.size, 0, none⟩ = some (.int .i64 0) := (by simp [World.cell?, hz]); have hf0 : w2.frozen? ⟨wr.heap.size, 0, none⟩ = false := (by simp [World.frozen?, hz]); have hc1 : w2.cell? ⟨wr.heap.size, 1, none⟩ = some (.int .i64 0) := (by simp [World.cell?, hz]); have hf1 : w2.frozen? ⟨wr.heap.size, 1, none⟩ = false := (by simp [World.frozen?, hz]); have hc2 : w2.cell? ⟨wr.heap.size, 2, none⟩ = some (.int .i64 0) := (by simp [World.cell?, hz]); have hf2 : w2.frozen? ⟨wr.heap.size, 2, none⟩ = false := (by simp [World.frozen?, hz]); have hc3 : w2.cell? ⟨wr.heap.size, 3, none⟩ = some (.int .i64 0) := (by simp [World.cell?, hz]); have hf3 : w2.frozen? ⟨wr.heap.size, 3, none⟩ = false := (by simp [World.frozen?, hz]); clear hz; replace hb2 : Below wr.heap.size wr w2 := below_step (below_drew (below_alloc (Below.refl wr.heap.size wr) _)) hb2) | (replace hb2 : Below wr.heap.size wr w2 := below_step (below_drew (Below.refl wr.heap.size wr)) hb2))))
    ·have hB4 : Below wr.heap.size wr (w2.alloc (.cells #[.int .i64 (b4 q0 q1 q2 q3).1, .int .i64 (b4 q0 q1 q2 q3).2.1, .int .i64 (b4 q0 q1 q2 q3).2.2.1, .int .i64 (b4 q0 q1 q2 q3).2.2.2] 150)) := below_alloc hb2 _
     have hn4 : Aside0 (w2.heap.size ≠ go) := ⟨by have := hb2.size; have h2_ := World.block_lt_of_cell? wr _ hx0; simp at this h2_; omega⟩
     have HOW : Aside0 (Kd.R (Kd.int .i64) 3 (w2.alloc (.cells #[.int .i64 (b4 q0 q1 q2 q3).1, .int .i64 (b4 q0 q1 q2 q3).2.1, .int .i64 (b4 q0 q1 q2 q3).2.2.1, .int .i64 (b4 q0 q1 q2 q3).2.2.2] 150)) w.heap.size (fun _ => True) (.slice (some ⟨go, 0, none⟩) 16 co) X) := ⟨Kd.R_below HO.out hB4⟩
     have HBW : Aside0 (Below w.heap.size w (w2.alloc (.cells #[.int .i64 (b4 q0 q1 q2 q3).1, .int .i64 (b4 q0 q1 q2 q3).2.1, .int .i64 (b4 q0 q1 q2 q3).2.2.1, .int .i64 (b4 q0 q1 q2 q3).2.2.2] 150))) := ⟨below_step HB.out hB4⟩
     obtain ⟨k0, k1, k2, k3⟩ := new4 w2 (.int .i64 (b4 q0 q1 q2 q3).1) (.int .i64 (b4 q0 q1 q2 q3).2.1) (.int .i64 (b4 q0 q1 q2 q3).2.2.1) (.int .i64 (b4 q0 q1 q2 q3).2.2.2)
     revert HOW HBW hn4 k0 k1 k2 k3
     generalize w2.alloc _ = W4
     generalize w2.heap.size = bk4
     intro hn4 HOW HBW k0 k1 k2 k3
     revert hn4 HOW HBW k0 k1 k2 k3
     revert bk4
     revert W4
     exact tail_
    ·have hB4 : Below wr.heap.size wr ((((w2.setCell ⟨wr.heap.size, 0, none⟩ (.int .i64 (b4 q0 q1 q2 q3).1)).setCell ⟨wr.heap.size, 1, none⟩ (.int .i64 (b4 q0 q1 q2 q3).2.1)).setCell ⟨wr.heap.size, 2, none⟩ (.int .i64 (b4 q0 q1 q2 q3).2.2.1)).setCell ⟨wr.heap.size, 3, none⟩ (.int .i64 (b4 q0 q1 q2 q3).2.2.2)) := below_set (below_set (below_set (below_set hb2 (Nat.le_refl _)) (Nat.le_refl _)) (Nat.le_refl _)) (Nat.le_refl _)
     have hn4 : Aside0 (wr.heap.size ≠ go) := ⟨hne⟩
     have HOW : Aside0 (Kd.R (Kd.int .i64) 3 ((((w2.setCell ⟨wr.heap.size, 0, none⟩ (.int .i64 (b4 q0 q1 q2 q3).1)).setCell ⟨wr.heap.size, 1, none⟩ (.int .i64 (b4 q0 q1 q2 q3).2.1)).setCell ⟨wr.heap.size, 2, none⟩ (.int .i64 (b4 q0 q1 q2 q3).2.2.1)).setCell ⟨wr.heap.size, 3, none⟩ (.int .i64 (b4 q0 q1 q2 q3).2.2.2)) w.heap.size (fun _ => True) (.slice (some ⟨go, 0, none⟩) 16 co) X) := ⟨Kd.R_below HO.out hB4⟩
     have HBW : Aside0 (Below w.heap.size w ((((w2.setCell ⟨wr.heap.size, 0, none⟩ (.int .i64 (b4 q0 q1 q2 q3).1)).setCell ⟨wr.heap.size, 1, none⟩ (.int .i64 (b4 q0 q1 q2 q3).2.1)).setCell ⟨wr.heap.size, 2, none⟩ (.int .i64 (b4 q0 q1 q2 q3).2.2.1)).setCell ⟨wr.heap.size, 3, none⟩ (.int .i64 (b4 q0 q1 q2 q3).2.2.2))) := ⟨below_step HB.out hB4⟩
     obtain ⟨k0, k1, k2, k3⟩ := set4 w2 wr.heap.size _ _ _ _ (.int .i64 (b4 q0 q1 q2 q3).1) (.int .i64 (b4 q0 q1 q2 q3).2.1) (.int .i64 (b4 q0 q1 q2 q3).2.2.1) (.int .i64 (b4 q0 q1 q2 q3).2.2.2) hc0 hc1 hc2 hc3
     revert HOW HBW hn4 k0 k1 k2 k3
     generalize ((((w2.setCell ⟨wr.heap.size, 0, none⟩ (.int .i64 (b4 q0 q1 q2 q3).1)).setCell ⟨wr.heap.size, 1, none⟩ (.int .i64 (b4 q0 q1 q2 q3).2.1)).setCell ⟨wr.heap.size, 2, none⟩ (.int .i64 (b4 q0 q1 q2 q3).2.2.1)).setCell ⟨wr.heap.size, 3, none⟩ (.int .i64 (b4 q0 q1 q2 q3).2.2.2)) = W4
     generalize wr.heap.size = bk4
     intro hn4 HOW HBW k0 k1 k2 k3
     revert hn4 HOW HBW k0 k1 k2 k3
     revert bk4
     revert W4
     exact tail_
   case tail5 =>
    intro W4 bk4 hn4 HOW HBW k0 k1 k2 k3
    clear hx0 hx1 hx2 hx3 hd0 hd1 hd2 hd3 hne hlt HO HB
    have hfin : (((X.set 0 (b4 q0 q1 q2 q3).1).set 1 (b4 q0 q1 q2 q3).2.1).set 2 (b4 q0 q1 q2 q3).2.2.1).set 3 (b4 q0 q1 q2 q3).2.2.2 = rowsT b4 l0 1 := by rw [← hq0.out, ← hq1.out, ← hq2.out, ← hq3.out, hX.out]; rfl
    have HO4 : Kd.R (Kd.int .i64) 3 W4.drew w.heap.size (fun _ => True) (.slice (some ⟨go, 0, none⟩) 16 co) X := Kd.R_drew HOW.out
    have HB4 : Below w.heap.size w W4.drew := below_drew HBW.out
    have HO5 := Aside0.mk (put4 (w0 := w) HO4 0 (b4 q0 q1 q2 q3).1 (b4 q0 q1 q2 q3).2.1 (b4 q0 q1 q2 q3).2.2.1 (b4 q0 q1 q2 q3).2.2.2)
    have HB5 := Aside0.mk (below_put4 HB4 gb 0 (.int .i64 (b4 q0 q1 q2 q3).1) (.int .i64 (b4 q0 q1 q2 q3).2.1) (.int .i64 (b4 q0 q1 q2 q3).2.2.1) (.int .i64 (b4 q0 q1 q2 q3).2.2.2))
    rw [hfin] at HO5
    clear hfin
    have hcp := copy4 HO4 0 (by decide) _ _ _ _ k0 k1 k2 k3
    clear HO4 HB4
    have hco : 16 ≤ co := (Kd.R_reads' HOW.out).2.1
    have hco1 : (4 : Int) ≤ (co : Int) := by omega
    have hco2 : 4 ≤ co := by omega
    have e4 : IntKind.i64.wrap (0 + 4) = 4 := rfl
    have g4 : IntKind.i64.wrap 4 = 4 := rfl
    clear hco
    go_wp2
    go_region_held3 (fun W => True) (trivial) (fail)
    go_wp2
    go_roundg 3
    case measure => decide
    case rel => exact ⟨1, 4, rfl, ⟨by decide, by decide⟩, HO5, HB5⟩
  rcases hn with rfl | hn
  ·obtain rfl : gk = 3 := by have := HN.out.1; omega
   obtain rfl : r = 4 := by have := HN.out.2; omega
   obtain ⟨X, hX⟩ : ∃ X, X = rowsT b4 l0 1 := ⟨_, rfl⟩
   rw [← hX] at HO
   replace hX := Aside0.mk hX
   have hx0 : wr.cell? ⟨go, 4, none⟩ = some (.int .i64 (rd X 4)) := (Kd.R_celln 0 HO.out 4 (by decide) (by decide)).1
   have hx1 : wr.cell? ⟨go, 5, none⟩ = some (.int .i64 (rd X 5)) := (Kd.R_celln 0 HO.out 5 (by decide) (by decide)).1
   have hx2 : wr.cell? ⟨go, 6, none⟩ = some (.int .i64 (rd X 6)) := (Kd.R_celln 0 HO.out 6 (by decide) (by decide)).1
   have hx3 : wr.cell? ⟨go, 7, none⟩ = some (.int .i64 (rd X 7)) := (Kd.R_celln 0 HO.out 7 (by decide) (by decide)).1
   generalize hq0 : rd X 4 = q0 at hx0
   generalize hq1 : rd X 5 = q1 at hx1
   generalize hq2 : rd X 6 = q2 at hx2
   generalize hq3 : rd X 7 = q3 at hx3
   replace hq0 := Aside0.mk hq0
   replace hq1 := Aside0.mk hq1
   replace hq2 := Aside0.mk hq2
   replace hq3 := Aside0.mk hq3
   have hd0 : wr.drew.cell? ⟨go, 4, none⟩ = some (.int .i64 q0) := hx0
   have hd1 : wr.drew.cell? ⟨go, 5, none⟩ = some (.int .i64 q1) := hx1
   have hd2 : wr.drew.cell? ⟨go, 6, none⟩ = some (.int .i64 q2) := hx2
   have hd3 : wr.drew.cell? ⟨go, 7, none⟩ = some (.int .i64 q3) := hx3
   have e1 : IntKind.i64.wrap (4 + 1) = 5 := rfl
   have g1 : IntKind.i64.wrap 5 = 5 := rfl
   have e2 : IntKind.i64.wrap (4 + 2) = 6 := rfl
   have g2 : IntKind.i64.wrap 6 = 6 := rfl
   have e3 : IntKind.i64.wrap (4 + 3) = 7 := rfl
   have g3 : IntKind.i64.wrap 7 = 7 := rfl
   have hlt := World.block_lt_of_cell? wr _ hx0
   have hne : ¬ (wr.heap.size = go) := by simp at hlt; omega
   go_wp2
   refine share4 (G := ?G6) (fun tail_ => ?main6) ?tail6
   case main6 =>
    go_region_held3 (fun W => W.cell? ⟨go, 4, none⟩ = some (.int .i64 q0) ∧ W.cell? ⟨go, 5, none⟩ = some (.int .i64 q1) ∧ W.cell? ⟨go, 6, none⟩ = some (.int .i64 q2) ∧ W.cell? ⟨go, 7, none⟩ = some (.int .i64 q3)) ((with_reducible ((repeat' apply And.intro) <;> (first | exact hd0 | exact (hb2.cell (World.block_lt_of_cell? _ _ hx0)).trans hx0 | exact ((below_alloc hb2 _).cell (World.block_lt_of_cell? _ _ hx0)).trans hx0 | exact ((below_drew (below_alloc (Below.refl _ _) _)).cell (World.block_lt_of_cell? _ _ hx0)).trans hx0 | exact hd1 | exact (hb2.cell (World.block_lt_of_cell? _ _ hx1)).trans hx1 | exact ((below_alloc hb2 _).cell (World.block_lt_of_cell? _ _ hx1)).trans hx1 | exact ((below_drew (below_alloc (Below.refl _ _) _)).cell (World.block_lt_of_cell? _ _ hx1)).trans hx1 | exact hd2 | exact (hb2.cell (World.block_lt_of_cell? _ _ hx2)).trans hx2 | exact ((below_alloc hb2 _).cell (World.block_lt_of_cell? _ _ hx2)).trans hx2 | exact ((below_drew (below_alloc (Below.refl _ _) _)).cell (World.block_lt_of_cell? _ _ hx2)).trans hx2 | exact hd3 | exact (hb2.cell (World.block_lt_of_cell? _ _ hx3)).trans hx3 | exact ((below_alloc hb2 _).cell (World.block_lt_of_cell? _ _ hx3)).trans hx3 | exact ((below_drew (below_alloc (Below.refl _ _) _)).cell (World.block_lt_of_cell? _ _ hx3)).trans hx3 | (refine Eq.trans (World.cell?_setCell_other _ _ _ _ (fun e_ => absurd (congrArg Addr.block e_) hne)) ?_; refine Eq.trans (World.cell?_setCell_other _ _ _ _ (fun e_ => absurd (congrArg Addr.block e_) hne)) ?_; refine Eq.trans (World.cell?_setCell_other _ _ _ _ (fun e_ => absurd (congrArg Addr.block e_) hne)) ?_; refine Eq.trans (World.cell?_setCell_other _ _ _ _ (fun e_ => absurd (congrArg Addr.block e_) hne)) ?_; first | exact (hb2.cell (World.block_lt_of_cell? _ _ hx0)).trans hx0 | exact (hb2.cell (World.block_lt_of_cell? _ _ hx1)).trans hx1 | exact (hb2.cell (World.block_lt_of_cell? _ _ hx2)).trans hx2 | exact (hb2.cell (World.block_lt_of_cell? _ _ hx3)).trans hx3))))) (first | (go_at_call 154; refine (b4.calls _ _ _ _ _).mono ?_; rintro e w2 ⟨rfl, hb2⟩; (first | (have hz : w2.heap[wr.heap.size]? = some (.cells #[.int .i64 0, .int .i64 0, .int .i64 0, .int .i64 0] 150) := (hb2.block wr.heap.size (by simp)).trans (heap_alloc_new wr.drew _); have hc0 : w2.cell? ⟨wr.heap.size, 0, none⟩ = some (.int .i64 0) := (by simp [World.cell?, hz]); have hf0 : w2.frozen? ⟨wr.heap.size, 0, none⟩ = false := (by simp [World.frozen?, hz]); have hc1 : w2.cell? ⟨wr.heap.size, 1, none⟩ = some (.int .i64 0) := (by simp [World.cell?, hz]); have hf1 : w2.frozen? ⟨wr.heap.size, 1, none⟩ = false := (by simp [World.frozen?, hz]); have hc2 : w2.cell? ⟨wr.heap.size, 2, none⟩ = some (.int .i64 0) := (by simp [World.cell?, hz]); have hf2 : w2.frozen? ⟨wr.heap.size, 2, none⟩ = false := (by simp [World.frozen?, hz]); have hc3 : w2.cell? ⟨wr.heap.size, 3, none⟩ = some (.int .i64 0) := (by simp [World.cell?, hz]); have hf3 : w2.frozen? ⟨wr.heap.size, 3, none⟩ = false := (by simp [World.frozen?, hz]); clear hz; replace hb2 : Below wr.heap.size wr w2 := below_step (below_drew (below_alloc (Below.refl wr.heap.size wr) _)) hb2) | (replace hb2 : Below wr.heap.size wr w2 := below_step (below_drew (Below.refl wr.heap.size wr)) hb2))))
    ·have hB4 : Below wr.heap.size wr (w2.alloc (.cells #[.int .i64 (b4 q0 q1 q2 q3).1, .int .i64 (b4 q0 q1 q2 q3).2.1, .int .i64 (b4 q0 q1 q2 q3).2.2.1, .int .i64 (b4 q0 q1 q2 q3).2.2.2] 150)) := below_alloc hb2 _
     have hn4 : Aside0 (w2.heap.size ≠ go) := ⟨by have := hb2.size; have h2_ := World.block_lt_of_cell? wr _ hx0; simp at this h2_; omega⟩
     have HOW : Aside0 (Kd.R (Kd.int .i64) 3 (w2.alloc (.cells #[.int .i64 (b4 q0 q1 q2 q3).1, .int .i64 (b4 q0 q1 q2 q3).2.1, .int .i64 (b4 q0 q1 q2 q3).2.2.1, .int .i64 (b4 q0 q1 q2 q3).2.2.2] 150)) w.heap.size (fun _ => True) (.slice (some ⟨go, 0, none⟩) 16 co) X) := ⟨Kd.R_below HO.out hB4⟩
     have HBW : Aside0 (Below w.heap.size w (w2.alloc (.cells #[.int .i64 (b4 q0 q1 q2 q3).1, .int .i64 (b4 q0 q1 q2 q3).2.1, .int .i64 (b4 q0 q1 q2 q3).2.2.1, .int .i64 (b4 q0 q1 q2 q3).2.2.2] 150))) := ⟨below_step HB.out hB4⟩
     obtain ⟨k0, k1, k2, k3⟩ := new4 w2 (.int .i64 (b4 q0 q1 q2 q3).1) (.int .i64 (b4 q0 q1 q2 q3).2.1) (.int .i64 (b4 q0 q1 q2 q3).2.2.1) (.int .i64 (b4 q0 q1 q2 q3).2.2.2)
     revert HOW HBW hn4 k0 k1 k2 k3
     generalize w2.alloc _ = W4
     generalize w2.heap.size = bk4
     intro hn4 HOW HBW k0 k1 k2 k3
     revert hn4 HOW HBW k0 k1 k2 k3
     revert bk4
     revert W4
     exact tail_
    ·have hB4 : Below wr.heap.size wr ((((w2.setCell ⟨wr.heap.size, 0, none⟩ (.int .i64 (b4 q0 q1 q2 q3).1)).setCell ⟨wr.heap.size, 1, none⟩ (.int .i64 (b4 q0 q1 q2 q3).2.1)).setCell ⟨wr.heap.size, 2, none⟩ (.int .i64 (b4 q0 q1 q2 q3).2.2.1)).setCell ⟨wr.heap.size, 3, none⟩ (.int .i64 (b4 q0 q1 q2 q3).2.2.2)) := below_set (below_set (below_set (below_set hb2 (Nat.le_refl _)) (Nat.le_refl _)) (Nat.le_refl _)) (Nat.le_refl _)
     have hn4 : Aside0 (wr.heap.size ≠ go) := ⟨hne⟩
     have HOW : Aside0 (Kd.R (Kd.int .i64) 3 ((((w2.setCell ⟨wr.heap.size, 0, none⟩ (.int .i64 (b4 q0 q1 q2 q3).1)).setCell ⟨wr.heap.size, 1, none⟩ (.int .i64 (b4 q0 q1 q2 q3).2.1)).setCell ⟨wr.heap.size, 2, none⟩ (.int .i64 (b4 q0 q1 q2 q3).2.2.1)).setCell ⟨wr.heap.size, 3, none⟩ (.int .i64 (b4 q0 q1 q2 q3).2.2.2)) w.heap.size (fun _ => True) (.slice (some ⟨go, 0, none⟩) 16 co) X) := ⟨Kd.R_below HO.out hB4⟩
     have HBW : Aside0 (Below w.heap.size w ((((w2.setCell ⟨wr.heap.size, 0, none⟩ (.int .i64 (b4 q0 q1 q2 q3).1)).setCell ⟨wr.heap.size, 1, none⟩ (.int .i64 (b4 q0 q1 q2 q3).2.1)).setCell ⟨wr.heap.size, 2, none⟩ (.int .i64 (b4 q0 q1 q2 q3).2.2.1)).setCell ⟨wr.heap.size, 3, none⟩ (.int .i64 (b4 q0 q1 q2 q3).2.2.2))) := ⟨below_step HB.out hB4⟩
     obtain ⟨k0, k1, k2, k3⟩ := set4 w2 wr.heap.size _ _ _ _ (.int .i64 (b4 q0 q1 q2 q3).1) (.int .i64 (b4 q0 q1 q2 q3).2.1) (.int .i64 (b4 q0 q1 q2 q3).2.2.1) (.int .i64 (b4 q0 q1 q2 q3).2.2.2) hc0 hc1 hc2 hc3
     revert HOW HBW hn4 k0 k1 k2 k3
     generalize ((((w2.setCell ⟨wr.heap.size, 0, none⟩ (.int .i64 (b4 q0 q1 q2 q3).1)).setCell ⟨wr.heap.size, 1, none⟩ (.int .i64 (b4 q0 q1 q2 q3).2.1)).setCell ⟨wr.heap.size, 2, none⟩ (.int .i64 (b4 q0 q1 q2 q3).2.2.1)).setCell ⟨wr.heap.size, 3, none⟩ (.int .i64 (b4 q0 q1 q2 q3).2.2.2)) = W4
     generalize wr.heap.size = bk4
     intro hn4 HOW HBW k0 k1 k2 k3
     revert hn4 HOW HBW k0 k1 k2 k3
     revert bk4
     revert W4
     exact tail_
   case tail6 =>
    intro W4 bk4 hn4 HOW HBW k0 k1 k2 k3
    clear hx0 hx1 hx2 hx3 hd0 hd1 hd2 hd3 hne hlt HO HB
    have hfin : (((X.set 4 (b4 q0 q1 q2 q3).1).set 5 (b4 q0 q1 q2 q3).2.1).set 6 (b4 q0 q1 q2 q3).2.2.1).set 7 (b4 q0 q1 q2 q3).2.2.2 = rowsT b4 l0 2 := by rw [← hq0.out, ← hq1.out, ← hq2.out, ← hq3.out, hX.out]; rfl
    have HO4 : Kd.R (Kd.int .i64) 3 W4.drew w.heap.size (fun _ => True) (.slice (some ⟨go, 0, none⟩) 16 co) X := Kd.R_drew HOW.out
    have HB4 : Below w.heap.size w W4.drew := below_drew HBW.out
    have HO5 := Aside0.mk (put4 (w0 := w) HO4 4 (b4 q0 q1 q2 q3).1 (b4 q0 q1 q2 q3).2.1 (b4 q0 q1 q2 q3).2.2.1 (b4 q0 q1 q2 q3).2.2.2)
    have HB5 := Aside0.mk (below_put4 HB4 gb 4 (.int .i64 (b4 q0 q1 q2 q3).1) (.int .i64 (b4 q0 q1 q2 q3).2.1) (.int .i64 (b4 q0 q1 q2 q3).2.2.1) (.int .i64 (b4 q0 q1 q2 q3).2.2.2))
    rw [hfin] at HO5
    clear hfin
    have hcp := copy4 HO4 4 (by decide) _ _ _ _ k0 k1 k2 k3
    clear HO4 HB4
    have hco : 16 ≤ co := (Kd.R_reads' HOW.out).2.1
    have hco1 : (8 : Int) ≤ (co : Int) := by omega
    have hco2 : 8 ≤ co := by omega
    have e4 : IntKind.i64.wrap (4 + 4) = 8 := rfl
    have g4 : IntKind.i64.wrap 8 = 8 := rfl
    clear hco
    go_wp2
    go_region_held3 (fun W => True) (trivial) (fail)
    go_wp2
    go_roundg 2
    case measure => decide
    case rel => exact ⟨2, 8, rfl, ⟨by decide, by decide⟩, HO5, HB5⟩
  rcases hn with rfl | hn
  ·obtain rfl : gk = 2 := by have := HN.out.1; omega
   obtain rfl : r = 8 := by have := HN.out.2; omega
   obtain ⟨X, hX⟩ : ∃ X, X = rowsT b4 l0 2 := ⟨_, rfl⟩
   rw [← hX] at HO
   replace hX := Aside0.mk hX
   have hx0 : wr.cell? ⟨go, 8, none⟩ = some (.int .i64 (rd X 8)) := (Kd.R_celln 0 HO.out 8 (by decide) (by decide)).1
   have hx1 : wr.cell? ⟨go, 9, none⟩ = some (.int .i64 (rd X 9)) := (Kd.R_celln 0 HO.out 9 (by decide) (by decide)).1
   have hx2 : wr.cell? ⟨go, 10, none⟩ = some (.int .i64 (rd X 10)) := (Kd.R_celln 0 HO.out 10 (by decide) (by decide)).1
   have hx3 : wr.cell? ⟨go, 11, none⟩ = some (.int .i64 (rd X 11)) := (Kd.R_celln 0 HO.out 11 (by decide) (by decide)).1
   generalize hq0 : rd X 8 = q0 at hx0
   generalize hq1 : rd X 9 = q1 at hx1
   generalize hq2 : rd X 10 = q2 at hx2
   generalize hq3 : rd X 11 = q3 at hx3
   replace hq0 := Aside0.mk hq0
   replace hq1 := Aside0.mk hq1
   replace hq2 := Aside0.mk hq2
   replace hq3 := Aside0.mk hq3
   have hd0 : wr.drew.cell? ⟨go, 8, none⟩ = some (.int .i64 q0) := hx0
   have hd1 : wr.drew.cell? ⟨go, 9, none⟩ = some (.int .i64 q1) := hx1
   have hd2 : wr.drew.cell? ⟨go, 10, none⟩ = some (.int .i64 q2) := hx2
   have hd3 : wr.drew.cell? ⟨go, 11, none⟩ = some (.int .i64 q3) := hx3
   have e1 : IntKind.i64.wrap (8 + 1) = 9 := rfl
   have g1 : IntKind.i64.wrap 9 = 9 := rfl
   have e2 : IntKind.i64.wrap (8 + 2) = 10 := rfl
   have g2 : IntKind.i64.wrap 10 = 10 := rfl
   have e3 : IntKind.i64.wrap (8 + 3) = 11 := rfl
   have g3 : IntKind.i64.wrap 11 = 11 := rfl
   have hlt := World.block_lt_of_cell? wr _ hx0
   have hne : ¬ (wr.heap.size = go) := by simp at hlt; omega
   go_wp2
   refine share4 (G := ?G7) (fun tail_ => ?main7) ?tail7
   case main7 =>
    go_region_held3 (fun W => W.cell? ⟨go, 8, none⟩ = some (.int .i64 q0) ∧ W.cell? ⟨go, 9, none⟩ = some (.int .i64 q1) ∧ W.cell? ⟨go, 10, none⟩ = some (.int .i64 q2) ∧ W.cell? ⟨go, 11, none⟩ = some (.int .i64 q3)) ((with_reducible ((repeat' apply And.intro) <;> (first | exact hd0 | exact (hb2.cell (World.block_lt_of_cell? _ _ hx0)).trans hx0 | exact ((below_alloc hb2 _).cell (World.block_lt_of_cell? _ _ hx0)).trans hx0 | exact ((below_drew (below_alloc (Below.refl _ _) _)).cell (World.block_lt_of_cell? _ _ hx0)).trans hx0 | exact hd1 | exact (hb2.cell (World.block_lt_of_cell? _ _ hx1)).trans hx1 | exact ((below_alloc hb2 _).cell (World.block_lt_of_cell? _ _ hx1)).trans hx1 | exact ((below_drew (below_alloc (Below.refl _ _) _)).cell (World.block_lt_of_cell? _ _ hx1)).trans hx1 | exact hd2 | exact (hb2.cell (World.block_lt_of_cell? _ _ hx2)).trans hx2 | exact ((below_alloc hb2 _).cell (World.block_lt_of_cell? _ _ hx2)).trans hx2 | exact ((below_drew (below_alloc (Below.refl _ _) _)).cell (World.block_lt_of_cell? _ _ hx2)).trans hx2 | exact hd3 | exact (hb2.cell (World.block_lt_of_cell? _ _ hx3)).trans hx3 | exact ((below_alloc hb2 _).cell (World.block_lt_of_cell? _ _ hx3)).trans hx3 | exact ((below_drew (below_alloc (Below.refl _ _) _)).cell (World.block_lt_of_cell? _ _ hx3)).trans hx3 | (refine Eq.trans (World.cell?_setCell_other _ _ _ _ (fun e_ => absurd (congrArg Addr.block e_) hne)) ?_; refine Eq.trans (World.cell?_setCell_other _ _ _ _ (fun e_ => absurd (congrArg Addr.block e_) hne)) ?_; refine Eq.trans (World.cell?_setCell_other _ _ _ _ (fun e_ => absurd (congrArg Addr.block e_) hne)) ?_; refine Eq.trans (World.cell?_setCell_other _ _ _ _ (fun e_ => absurd (congrArg Addr.block e_) hne)) ?_; first | exact (hb2.cell (World.block_lt_of_cell? _ _ hx0)).trans hx0 | exact (hb2.cell (World.block_lt_of_cell? _ _ hx1)).trans hx1 | exact (hb2.cell (World.block_lt_of_cell? _ _ hx2)).trans hx2 | exact (hb2.cell (World.block_lt_of_cell? _ _ hx3)).trans hx3))))) (first | (go_at_call 154; refine (b4.calls _ _ _ _ _).mono ?_; rintro e w2 ⟨rfl, hb2⟩; (first | (have hz : w2.heap[wr.heap.size]? = some (.cells #[.int .i64 0, .int .i64 0, .int .i64 0, .int .i64 0] 150) := (hb2.block wr.heap.size (by simp)).trans (heap_alloc_new wr.drew _); have hc0 : w2.cell? ⟨wr.heap.size, 0, none⟩ = some (.int .i64 0) := (by simp [World.cell?, hz]); have hf0 : w2.frozen? ⟨wr.heap.size, 0, none⟩ = false := (by simp [World.frozen?, hz]); have hc1 : w2.cell? ⟨wr.heap.size, 1, none⟩ = some (.int .i64 0) := (by simp [World.cell?, hz]); have hf1 : w2.frozen? ⟨wr.heap.size, 1, none⟩ = false := (by simp [World.frozen?, hz]); have hc2 : w2.cell? ⟨wr.heap.size, 2, none⟩ = some (.int .i64 0) := (by simp [World.cell?, hz]); have hf2 : w2.frozen? ⟨wr.heap.size, 2, none⟩ = false := (by simp [World.frozen?, hz]); have hc3 : w2.cell? ⟨wr.heap.size, 3, none⟩ = some (.int .i64 0) := (by simp [World.cell?, hz]); have hf3 : w2.frozen? ⟨wr.heap.size, 3, none⟩ = false := (by simp [World.frozen?, hz]); clear hz; replace hb2 : Below wr.heap.size wr w2 := below_step (below_drew (below_alloc (Below.refl wr.heap.size wr) _)) hb2) | (replace hb2 : Below wr.heap.size wr w2 := below_step (below_drew (Below.refl wr.heap.size wr)) hb2))))
    ·have hB4 : Below wr.heap.size wr (w2.alloc (.cells #[.int .i64 (b4 q0 q1 q2 q3).1, .int .i64 (b4 q0 q1 q2 q3).2.1, .int .i64 (b4 q0 q1 q2 q3).2.2.1, .int .i64 (b4 q0 q1 q2 q3).2.2.2] 150)) := below_alloc hb2 _
     have hn4 : Aside0 (w2.heap.size ≠ go) := ⟨by have := hb2.size; have h2_ := World.block_lt_of_cell? wr _ hx0; simp at this h2_; omega⟩
     have HOW : Aside0 (Kd.R (Kd.int .i64) 3 (w2.alloc (.cells #[.int .i64 (b4 q0 q1 q2 q3).1, .int .i64 (b4 q0 q1 q2 q3).2.1, .int .i64 (b4 q0 q1 q2 q3).2.2.1, .int .i64 (b4 q0 q1 q2 q3).2.2.2] 150)) w.heap.size (fun _ => True) (.slice (some ⟨go, 0, none⟩) 16 co) X) := ⟨Kd.R_below HO.out hB4⟩
     have HBW : Aside0 (Below w.heap.size w (w2.alloc (.cells #[.int .i64 (b4 q0 q1 q2 q3).1, .int .i64 (b4 q0 q1 q2 q3).2.1, .int .i64 (b4 q0 q1 q2 q3).2.2.1, .int .i64 (b4 q0 q1 q2 q3).2.2.2] 150))) := ⟨below_step HB.out hB4⟩
     obtain ⟨k0, k1, k2, k3⟩ := new4 w2 (.int .i64 (b4 q0 q1 q2 q3).1) (.int .i64 (b4 q0 q1 q2 q3).2.1) (.int .i64 (b4 q0 q1 q2 q3).2.2.1) (.int .i64 (b4 q0 q1 q2 q3).2.2.2)
     revert HOW HBW hn4 k0 k1 k2 k3
     generalize w2.alloc _ = W4
     generalize w2.heap.size = bk4
     intro hn4 HOW HBW k0 k1 k2 k3
     revert hn4 HOW HBW k0 k1 k2 k3
     revert bk4
     revert W4
     exact tail_
    ·have hB4 : Below wr.heap.size wr ((((w2.setCell ⟨wr.heap.size, 0, none⟩ (.int .i64 (b4 q0 q1 q2 q3).1)).setCell ⟨wr.heap.size, 1, none⟩ (.int .i64 (b4 q0 q1 q2 q3).2.1)).setCell ⟨wr.heap.size, 2, none⟩ (.int .i64 (b4 q0 q1 q2 q3).2.2.1)).setCell ⟨wr.heap.size, 3, none⟩ (.int .i64 (b4 q0 q1 q2 q3).2.2.2)) := below_set (below_set (below_set (below_set hb2 (Nat.le_refl _)) (Nat.le_refl _)) (Nat.le_refl _)) (Nat.le_refl _)
     have hn4 : Aside0 (wr.heap.size ≠ go) := ⟨hne⟩
     have HOW : Aside0 (Kd.R (Kd.int .i64) 3 ((((w2.setCell ⟨wr.heap.size, 0, none⟩ (.int .i64 (b4 q0 q1 q2 q3).1)).setCell ⟨wr.heap.size, 1, none⟩ (.int .i64 (b4 q0 q1 q2 q3).2.1)).setCell ⟨wr.heap.size, 2, none⟩ (.int .i64 (b4 q0 q1 q2 q3).2.2.1)).setCell ⟨wr.heap.size, 3, none⟩ (.int .i64 (b4 q0 q1 q2 q3).2.2.2)) w.heap.size (fun _ => True) (.slice (some ⟨go, 0, none⟩) 16 co) X) := ⟨Kd.R_below HO.out hB4⟩
     have HBW : Aside0 (Below w.heap.size w ((((w2.setCell ⟨wr.heap.size, 0, none⟩ (.int .i64 (b4 q0 q1 q2 q3).1)).setCell ⟨wr.heap.size, 1, none⟩ (.int .i64 (b4 q0 q1 q2 q3).2.1)).setCell ⟨wr.heap.size, 2, none⟩ (.int .i64 (b4 q0 q1 q2 q3).2.2.1)).setCell ⟨wr.heap.size, 3, none⟩ (.int .i64 (b4 q0 q1 q2 q3).2.2.2))) := ⟨below_step HB.out hB4⟩
     obtain ⟨k0, k1, k2, k3⟩ := set4 w2 wr.heap.size _ _ _ _ (.int .i64 (b4 q0 q1 q2 q3).1) (.int .i64 (b4 q0 q1 q2 q3).2.1) (.int .i64 (b4 q0 q1 q2 q3).2.2.1) (.int .i64 (b4 q0 q1 q2 q3).2.2.2) hc0 hc1 hc2 hc3
     revert HOW HBW hn4 k0 k1 k2 k3
     generalize ((((w2.setCell ⟨wr.heap.size, 0, none⟩ (.int .i64 (b4 q0 q1 q2 q3).1)).setCell ⟨wr.heap.size, 1, none⟩ (.int .i64 (b4 q0 q1 q2 q3).2.1)).setCell ⟨wr.heap.size, 2, none⟩ (.int .i64 (b4 q0 q1 q2 q3).2.2.1)).setCell ⟨wr.heap.size, 3, none⟩ (.int .i64 (b4 q0 q1 q2 q3).2.2.2)) = W4
     generalize wr.heap.size = bk4
     intro hn4 HOW HBW k0 k1 k2 k3
     revert hn4 HOW HBW k0 k1 k2 k3
     revert bk4
     revert W4
     exact tail_
   case tail7 =>
    intro W4 bk4 hn4 HOW HBW k0 k1 k2 k3
    clear hx0 hx1 hx2 hx3 hd0 hd1 hd2 hd3 hne hlt HO HB
    have hfin : (((X.set 8 (b4 q0 q1 q2 q3).1).set 9 (b4 q0 q1 q2 q3).2.1).set 10 (b4 q0 q1 q2 q3).2.2.1).set 11 (b4 q0 q1 q2 q3).2.2.2 = rowsT b4 l0 3 := by rw [← hq0.out, ← hq1.out, ← hq2.out, ← hq3.out, hX.out]; rfl
    have HO4 : Kd.R (Kd.int .i64) 3 W4.drew w.heap.size (fun _ => True) (.slice (some ⟨go, 0, none⟩) 16 co) X := Kd.R_drew HOW.out
    have HB4 : Below w.heap.size w W4.drew := below_drew HBW.out
    have HO5 := Aside0.mk (put4 (w0 := w) HO4 8 (b4 q0 q1 q2 q3).1 (b4 q0 q1 q2 q3).2.1 (b4 q0 q1 q2 q3).2.2.1 (b4 q0 q1 q2 q3).2.2.2)
    have HB5 := Aside0.mk (below_put4 HB4 gb 8 (.int .i64 (b4 q0 q1 q2 q3).1) (.int .i64 (b4 q0 q1 q2 q3).2.1) (.int .i64 (b4 q0 q1 q2 q3).2.2.1) (.int .i64 (b4 q0 q1 q2 q3).2.2.2))
    rw [hfin] at HO5
    clear hfin
    have hcp := copy4 HO4 8 (by decide) _ _ _ _ k0 k1 k2 k3
    clear HO4 HB4
    have hco : 16 ≤ co := (Kd.R_reads' HOW.out).2.1
    have hco1 : (12 : Int) ≤ (co : Int) := by omega
    have hco2 : 12 ≤ co := by omega
    have e4 : IntKind.i64.wrap (8 + 4) = 12 := rfl
    have g4 : IntKind.i64.wrap 12 = 12 := rfl
    clear hco
    go_wp2
    go_region_held3 (fun W => True) (trivial) (fail)
    go_wp2
    go_roundg 1
    case measure => decide
    case rel => exact ⟨3, 12, rfl, ⟨by decide, by decide⟩, HO5, HB5⟩
  obtain rfl := hn
  ·obtain rfl : gk = 1 := by have := HN.out.1; omega
   obtain rfl : r = 12 := by have := HN.out.2; omega
   obtain ⟨X, hX⟩ : ∃ X, X = rowsT b4 l0 3 := ⟨_, rfl⟩
   rw [← hX] at HO
   replace hX := Aside0.mk hX
   have hx0 : wr.cell? ⟨go, 12, none⟩ = some (.int .i64 (rd X 12)) := (Kd.R_celln 0 HO.out 12 (by decide) (by decide)).1
   have hx1 : wr.cell? ⟨go, 13, none⟩ = some (.int .i64 (rd X 13)) := (Kd.R_celln 0 HO.out 13 (by decide) (by decide)).1
   have hx2 : wr.cell? ⟨go, 14, none⟩ = some (.int .i64 (rd X 14)) := (Kd.R_celln 0 HO.out 14 (by decide) (by decide)).1
   have hx3 : wr.cell? ⟨go, 15, none⟩ = some (.int .i64 (rd X 15)) := (Kd.R_celln 0 HO.out 15 (by decide) (by decide)).1
   generalize hq0 : rd X 12 = q0 at hx0
   generalize hq1 : rd X 13 = q1 at hx1
   generalize hq2 : rd X 14 = q2 at hx2
   generalize hq3 : rd X 15 = q3 at hx3
   replace hq0 := Aside0.mk hq0
   replace hq1 := Aside0.mk hq1
   replace hq2 := Aside0.mk hq2
   replace hq3 := Aside0.mk hq3
   have hd0 : wr.drew.cell? ⟨go, 12, none⟩ = some (.int .i64 q0) := hx0
   have hd1 : wr.drew.cell? ⟨go, 13, none⟩ = some (.int .i64 q1) := hx1
   have hd2 : wr.drew.cell? ⟨go, 14, none⟩ = some (.int .i64 q2) := hx2
   have hd3 : wr.drew.cell? ⟨go, 15, none⟩ = some (.int .i64 q3) := hx3
   have e1 : IntKind.i64.wrap (12 + 1) = 13 := rfl
   have g1 : IntKind.i64.wrap 13 = 13 := rfl
   have e2 : IntKind.i64.wrap (12 + 2) = 14 := rfl
   have g2 : IntKind.i64.wrap 14 = 14 := rfl
   have e3 : IntKind.i64.wrap (12 + 3) = 15 := rfl
   have g3 : IntKind.i64.wrap 15 = 15 := rfl
   have hlt := World.block_lt_of_cell? wr _ hx0
   have hne : ¬ (wr.heap.size = go) := by simp at hlt; omega
   go_wp2
   refine share4 (G := ?G8) (fun tail_ => ?main8) ?tail8
   case main8 =>
    go_region_held3 (fun W => W.cell? ⟨go, 12, none⟩ = some (.int .i64 q0) ∧ W.cell? ⟨go, 13, none⟩ = some (.int .i64 q1) ∧ W.cell? ⟨go, 14, none⟩ = some (.int .i64 q2) ∧ W.cell? ⟨go, 15, none⟩ = some (.int .i64 q3)) ((with_reducible ((repeat' apply And.intro) <;> (first | exact hd0 | exact (hb2.cell (World.block_lt_of_cell? _ _ hx0)).trans hx0 | exact ((below_alloc hb2 _).cell (World.block_lt_of_cell? _ _ hx0)).trans hx0 | exact ((below_drew (below_alloc (Below.refl _ _) _)).cell (World.block_lt_of_cell? _ _ hx0)).trans hx0 | exact hd1 | exact (hb2.cell (World.block_lt_of_cell? _ _ hx1)).trans hx1 | exact ((below_alloc hb2 _).cell (World.block_lt_of_cell? _ _ hx1)).trans hx1 | exact ((below_drew (below_alloc (Below.refl _ _) _)).cell (World.block_lt_of_cell? _ _ hx1)).trans hx1 | exact hd2 | exact (hb2.cell (World.block_lt_of_cell? _ _ hx2)).trans hx2 | exact ((below_alloc hb2 _).cell (World.block_lt_of_cell? _ _ hx2)).trans hx2 | exact ((below_drew (below_alloc (Below.refl _ _) _)).cell (World.block_lt_of_cell? _ _ hx2)).trans hx2 | exact hd3 | exact (hb2.cell (World.block_lt_of_cell? _ _ hx3)).trans hx3 | exact ((below_alloc hb2 _).cell (World.block_lt_of_cell? _ _ hx3)).trans hx3 | exact ((below_drew (below_alloc (Below.refl _ _) _)).cell (World.block_lt_of_cell? _ _ hx3)).trans hx3 | (refine Eq.trans (World.cell?_setCell_other _ _ _ _ (fun e_ => absurd (congrArg Addr.block e_) hne)) ?_; refine Eq.trans (World.cell?_setCell_other _ _ _ _ (fun e_ => absurd (congrArg Addr.block e_) hne)) ?_; refine Eq.trans (World.cell?_setCell_other _ _ _ _ (fun e_ => absurd (congrArg Addr.block e_) hne)) ?_; refine Eq.trans (World.cell?_setCell_other _ _ _ _ (fun e_ => absurd (congrArg Addr.block e_) hne)) ?_; first | exact (hb2.cell (World.block_lt_of_cell? _ _ hx0)).trans hx0 | exact (hb2.cell (World.block_lt_of_cell? _ _ hx1)).trans hx1 | exact (hb2.cell (World.block_lt_of_cell? _ _ hx2)).trans hx2 | exact (hb2.cell (World.block_lt_of_cell? _ _ hx3)).trans hx3))))) (first | (go_at_call 154; refine (b4.calls _ _ _ _ _).mono ?_; rintro e w2 ⟨rfl, hb2⟩; (first | (have hz : w2.heap[wr.heap.size]? = some (.cells #[.int .i64 0, .int .i64 0, .int .i64 0, .int .i64 0] 150) := (hb2.block wr.heap.size (by simp)).trans (heap_alloc_new wr.drew _); have hc0 : w2.cell? ⟨wr.heap.size, 0, none⟩ = some (.int .i64 0) := (by simp [World.cell?, hz]); have hf0 : w2.frozen? ⟨wr.heap.size, 0, none⟩ = false := (by simp [World.frozen?, hz]); have hc1 : w2.cell? ⟨wr.heap.size, 1, none⟩ = some (.int .i64 0) := (by simp [World.cell?, hz]); have hf1 : w2.frozen? ⟨wr.heap.size, 1, none⟩ = false := (by simp [World.frozen?, hz]); have hc2 : w2.cell? ⟨wr.heap.size, 2, none⟩ = some (.int .i64 0) := (by simp [World.cell?, hz]); have hf2 : w2.frozen? ⟨wr.heap.size, 2, none⟩ = false := (by simp [World.frozen?, hz]); have hc3 : w2.cell? ⟨wr.heap.size, 3, none⟩ = some (.int .i64 0) := (by simp [World.cell?, hz]); have hf3 : w2.frozen? ⟨wr.heap.size, 3, none⟩ = false := (by simp [World.frozen?, hz]); clear hz; replace hb2 : Below wr.heap.size wr w2 := below_step (below_drew (below_alloc (Below.refl wr.heap.size wr) _)) hb2) | (replace hb2 : Below wr.heap.size wr w2 := below_step (below_drew (Below.refl wr.heap.size wr)) hb2))))
    ·have hB4 : Below wr.heap.size wr (w2.alloc (.cells #[.int .i64 (b4 q0 q1 q2 q3).1, .int .i64 (b4 q0 q1 q2 q3).2.1, .int .i64 (b4 q0 q1 q2 q3).2.2.1, .int .i64 (b4 q0 q1 q2 q3).2.2.2] 150)) := below_alloc hb2 _
     have hn4 : Aside0 (w2.heap.size ≠ go) := ⟨by have := hb2.size; have h2_ := World.block_lt_of_cell? wr _ hx0; simp at this h2_; omega⟩
     have HOW : Aside0 (Kd.R (Kd.int .i64) 3 (w2.alloc (.cells #[.int .i64 (b4 q0 q1 q2 q3).1, .int .i64 (b4 q0 q1 q2 q3).2.1, .int .i64 (b4 q0 q1 q2 q3).2.2.1, .int .i64 (b4 q0 q1 q2 q3).2.2.2] 150)) w.heap.size (fun _ => True) (.slice (some ⟨go, 0, none⟩) 16 co) X) := ⟨Kd.R_below HO.out hB4⟩
     have HBW : Aside0 (Below w.heap.size w (w2.alloc (.cells #[.int .i64 (b4 q0 q1 q2 q3).1, .int .i64 (b4 q0 q1 q2 q3).2.1, .int .i64 (b4 q0 q1 q2 q3).2.2.1, .int .i64 (b4 q0 q1 q2 q3).2.2.2] 150))) := ⟨below_step HB.out hB4⟩
     obtain ⟨k0, k1, k2, k3⟩ := new4 w2 (.int .i64 (b4 q0 q1 q2 q3).1) (.int .i64 (b4 q0 q1 q2 q3).2.1) (.int .i64 (b4 q0 q1 q2 q3).2.2.1) (.int .i64 (b4 q0 q1 q2 q3).2.2.2)
     revert HOW HBW hn4 k0 k1 k2 k3
     generalize w2.alloc _ = W4
     generalize w2.heap.size = bk4
     intro hn4 HOW HBW k0 k1 k2 k3
     revert hn4 HOW HBW k0 k1 k2 k3
     revert bk4
     revert W4
     exact tail_
    ·have hB4 : Below wr.heap.size wr ((((w2.setCell ⟨wr.heap.size, 0, none⟩ (.int .i64 (b4 q0 q1 q2 q3).1)).setCell ⟨wr.heap.size, 1, none⟩ (.int .i64 (b4 q0 q1 q2 q3).2.1)).setCell ⟨wr.heap.size, 2, none⟩ (.int .i64 (b4 q0 q1 q2 q3).2.2.1)).setCell ⟨wr.heap.size, 3, none⟩ (.int .i64 (b4 q0 q1 q2 q3).2.2.2)) := below_set (below_set (below_set (below_set hb2 (Nat.le_refl _)) (Nat.le_refl _)) (Nat.le_refl _)) (Nat.le_refl _)
     have hn4 : Aside0 (wr.heap.size ≠ go) := ⟨hne⟩
     have HOW : Aside0 (Kd.R (Kd.int .i64) 3 ((((w2.setCell ⟨wr.heap.size, 0, none⟩ (.int .i64 (b4 q0 q1 q2 q3).1)).setCell ⟨wr.heap.size, 1, none⟩ (.int .i64 (b4 q0 q1 q2 q3).2.1)).setCell ⟨wr.heap.size, 2, none⟩ (.int .i64 (b4 q0 q1 q2 q3).2.2.1)).setCell ⟨wr.heap.size, 3, none⟩ (.int .i64 (b4 q0 q1 q2 q3).2.2.2)) w.heap.size (fun _ => True) (.slice (some ⟨go, 0, none⟩) 16 co) X) := ⟨Kd.R_below HO.out hB4⟩
     have HBW : Aside0 (Below w.heap.size w ((((w2.setCell ⟨wr.heap.size, 0, none⟩ (.int .i64 (b4 q0 q1 q2 q3).1)).setCell ⟨wr.heap.size, 1, none⟩ (.int .i64 (b4 q0 q1 q2 q3).2.1)).setCell ⟨wr.heap.size, 2, none⟩ (.int .i64 (b4 q0 q1 q2 q3).2.2.1)).setCell ⟨wr.heap.size, 3, none⟩ (.int .i64 (b4 q0 q1 q2 q3).2.2.2))) := ⟨below_step HB.out hB4⟩
     obtain ⟨k0, k1, k2, k3⟩ := set4 w2 wr.heap.size _ _ _ _ (.int .i64 (b4 q0 q1 q2 q3).1) (.int .i64 (b4 q0 q1 q2 q3).2.1) (.int .i64 (b4 q0 q1 q2 q3).2.2.1) (.int .i64 (b4 q0 q1 q2 q3).2.2.2) hc0 hc1 hc2 hc3
     revert HOW HBW hn4 k0 k1 k2 k3
     generalize ((((w2.setCell ⟨wr.heap.size, 0, none⟩ (.int .i64 (b4 q0 q1 q2 q3).1)).setCell ⟨wr.heap.size, 1, none⟩ (.int .i64 (b4 q0 q1 q2 q3).2.1)).setCell ⟨wr.heap.size, 2, none⟩ (.int .i64 (b4 q0 q1 q2 q3).2.2.1)).setCell ⟨wr.heap.size, 3, none⟩ (.int .i64 (b4 q0 q1 q2 q3).2.2.2)) = W4
     generalize wr.heap.size = bk4
     intro hn4 HOW HBW k0 k1 k2 k3
     revert hn4 HOW HBW k0 k1 k2 k3
     revert bk4
     revert W4
     exact tail_
   case tail8 =>
    intro W4 bk4 hn4 HOW HBW k0 k1 k2 k3
    clear hx0 hx1 hx2 hx3 hd0 hd1 hd2 hd3 hne hlt HO HB
    have hfin : (((X.set 12 (b4 q0 q1 q2 q3).1).set 13 (b4 q0 q1 q2 q3).2.1).set 14 (b4 q0 q1 q2 q3).2.2.1).set 15 (b4 q0 q1 q2 q3).2.2.2 = rowsT b4 l0 4 := by rw [← hq0.out, ← hq1.out, ← hq2.out, ← hq3.out, hX.out]; rfl
    have HO4 : Kd.R (Kd.int .i64) 3 W4.drew w.heap.size (fun _ => True) (.slice (some ⟨go, 0, none⟩) 16 co) X := Kd.R_drew HOW.out
    have HB4 : Below w.heap.size w W4.drew := below_drew HBW.out
    have HO5 := Aside0.mk (put4 (w0 := w) HO4 12 (b4 q0 q1 q2 q3).1 (b4 q0 q1 q2 q3).2.1 (b4 q0 q1 q2 q3).2.2.1 (b4 q0 q1 q2 q3).2.2.2)
    have HB5 := Aside0.mk (below_put4 HB4 gb 12 (.int .i64 (b4 q0 q1 q2 q3).1) (.int .i64 (b4 q0 q1 q2 q3).2.1) (.int .i64 (b4 q0 q1 q2 q3).2.2.1) (.int .i64 (b4 q0 q1 q2 q3).2.2.2))
    rw [hfin] at HO5
    clear hfin
    have hcp := copy4 HO4 12 (by decide) _ _ _ _ k0 k1 k2 k3
    clear HO4 HB4
    have hco : 16 ≤ co := (Kd.R_reads' HOW.out).2.1
    have hco1 : (16 : Int) ≤ (co : Int) := by omega
    have hco2 : 16 ≤ co := by omega
    have e4 : IntKind.i64.wrap (12 + 4) = 16 := rfl
    have g4 : IntKind.i64.wrap 16 = 16 := rfl
    clear hco
    go_wp2
    go_region_held3 (fun W => True) (trivial) (fail)
    go_wp2
    go_roundg 0
    case measure => decide
    case rel => exact ⟨4, 16, rfl, ⟨by decide, by decide⟩, HO5, HB5⟩
theorem impl_FourBack.calls (k : Nat) (A0 : Option Addr) (c0 : Nat) (l0 : List Int) (r : List Int) (w : World) (hr0 : Kd.C (Kd.int .i64) w A0 l0.length l0) (hc0 : l0.length ≤ c0) (h : impl_FourBack.f k l0 = some r) :
  Calls Try.prog 117 #[.slice A0 l0.length c0] w fun e w' => ∃ v0_ : Value, e = .returned (v0_) ∧ Kd.R (Kd.int .i64) 3 w' w.heap.size (fun _ => True) v0_ r ∧ Below w.heap.size w w' := by
 have HR0 := Aside0.mk hr0
 have HC0 := Aside0.mk hc0
 clear hr0 hc0
 have HB := Aside0.mk (Below.refl w.heap.size w)
 unfold impl_FourBack.f at h
 obtain ⟨t121, A20, H⟩ := Option.bind_eq_some_iff.mp h
 have A2 := Aside0.mk A20
 clear A20 h
 cases t121 with
 | true =>
  rw [if_pos rfl] at H
  by_cases h16 : l0.length = 16
  ·rw [if_pos h16] at H
   obtain ⟨t178, A50, H⟩ := Option.bind_eq_some_iff.mp H
   have A5 := Aside0.mk A50
   clear A50
   obtain rfl := Option.some.inj H
   clear H
   have H16 := Aside0.mk h16
   clear h16
   go_enter Try.func117, Try.ntmps117
   go_wp2_with (first | ((with_reducible refine gate_callee (f := 119) rfl ?_); refine gD (some 4) Try.func119 #[.slice A0 l0.length c0, .int .i64 16, .int .i64 (-10000000), .int .i64 10000000] (impl_areIn.calls k _ _ l0 16 (-10000000) 10000000 true _ ?side1 ?side2 A2.out) ?_; (case side1 => exact ca (HR0.out)); (case side2 => exact HC0.out); intro nd) | ((with_reducible refine gate_callee (f := 153) rfl ?_); refine gL (some 8) Try.func153 #[.slice A0 l0.length c0, .func (.func 154) #[] #[]] ?_; (with_reducible refine (turned72.calls _ _ l0 _ ?side1 ?side2 H16.out).mono ?_); (case side1 => exact ca (HR0.out)); (case side2 => exact HC0.out); rintro e w8 ⟨v126, rfl, ho0, hb⟩; refine ⟨_, rfl, ?_⟩; have n0_ := Aside0.mk (Kd.R_lower ho0 (below_size (bo HB))); have n1_ := bs HB hb; clear HB; have HO127 := n0_; have HB := n1_; clear n0_ n1_ hb ho0; obtain ⟨Ao7, co7, eo7⟩ := Kd.R_slice HO127.out; subst eo7) | ((with_reducible refine gate_callee (f := 150) rfl ?_); refine gL (some 9) Try.func150 #[.slice Ao7 (turnedL b4 l0).length co7] ?_; (with_reducible refine (impl_settled.calls k (fun k_ => some k_ = (.slice Ao7 (turnedL b4 l0).length co7 : Value).ownBlock) (.slice Ao7 (turnedL b4 l0).length co7) (turnedL b4 l0) t178 w _ ?side1 ?side2 A5.out).mono ?_); (case side1 => repeat (first | (with_reducible first | exact HB.out | apply below_alloc | apply pw_below_drewN | apply below_drew1) | exact HB.out)); (case side2 => exact Kd.R_tight rfl HO127.out); rintro e w8 ⟨v179, rfl, ho0, hb, hkp⟩; refine ⟨_, rfl, ?_⟩; have HO180 := Aside0.mk (Kd.R_mono (ok' := fun k_ => True) ho0 (fun k_ hk_ => trivial)); replace HB := Aside0.mk (hb); clear HO127; (try clear hb); (try clear hkp); (try clear ho0)))
   go_ret
   exact ⟨_, rfl, ro HO180.out, bo HB⟩
  ·rw [if_neg h16] at H
   cases H
 | false =>
  obtain rfl : ([] : List Int) = r := Option.some.inj H
  clear H
  go_enter Try.func117, Try.ntmps117
  go_wp2_with (first | ((with_reducible refine gate_callee (f := 119) rfl ?_); refine gD (some 4) Try.func119 #[.slice A0 l0.length c0, .int .i64 16, .int .i64 (-10000000), .int .i64 10000000] (impl_areIn.calls k _ _ l0 16 (-10000000) 10000000 false _ ?side1 ?side2 A2.out) ?_; (case side1 => exact ca (HR0.out)); (case side2 => exact HC0.out); intro nd) | ((with_reducible refine gate_dst (N := 6) rfl ?_); refine Kd.R_lit (Kd.int .i64) _ 3 ?hg (N := 6) ?hd (xs := ([] : List Int)) (inner := []) (ok := fun _ => True) (okp := fun _ => True) ?hr ?hp (fun _ hk => hk) trivial (Below.refl _ _) (Nat.le_refl _) (by simp) ?_; (case hd => rfl); (case hg => rfl); (case hr => first | (go_simp; done) | (go_simp; rfl)); (case hp => exact (Reps.none _ _)); intro v123 w15 ho16 hb hg_ hnew_; clear hg_ hnew_; have HO124 := Aside0.mk (Kd.R_lower ho16 (below_size (bo HB))); replace HB := bs HB hb; clear hb ho16))
  go_ret
  exact ⟨_, rfl, ro HO124.out, bo HB⟩

end Go.Proofs.Ytnaccgommclhaaa.QFnExactSquareDots
