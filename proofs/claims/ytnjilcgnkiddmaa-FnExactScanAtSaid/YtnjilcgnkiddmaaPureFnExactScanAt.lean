/- The program's ScanAt answers what the reference's ScanAt answers, for all sides and places. No condition beside the row's own. -/
import Derived.Test.YtnjilcgnkiddmaaQFnExactScanAtx1
namespace Go.Proofs.Ytnjilcgnkiddmaa.Pure
open Go.RowKit Go.Proofs.Ytnjilcgnkiddmaa.QFnExactScanAt Go.Proofs.YtnjilcgnkiddmaaW.PrintWords Go.Proofs.YtnjilcgnkiddmaaW.PrintLast Go.Proofs.YtnjilcgnkiddmaaW.PrintMore
set_option linter.unusedVariables false
set_option linter.unusedSimpArgs false

theorem wrap_id {x : Int} (h0 : -9223372036854775808 ≤ x) (h1 : x ≤ 9223372036854775807) : wrap64 x = x := by
  unfold wrap64
  omega
theorem wf64 {n : Int} (h : (Lit.int .i64 n).wf = true) : -9223372036854775808 ≤ n ∧ n ≤ 9223372036854775807 := by
  simp [Lit.wf, IntKind.min, IntKind.max, IntKind.signed, IntKind.bits] at h
  omega
theorem wfu8 {n : Int} (h : (Lit.int .u8 n).wf = true) : 0 ≤ n ∧ n ≤ 255 := by
  simp [Lit.wf, IntKind.min, IntKind.max, IntKind.signed, IntKind.bits] at h
  omega
theorem within_eq (a b c : Int) : impl_within.f a b c = some (decide (b ≤ a ∧ a ≤ c)) := by
  unfold impl_within.f
  by_cases h : a ≥ b
  · rw [if_pos h]; congr 1; rw [decide_eq_decide]; omega
  · rw [if_neg h]; congr 1; symm; rw [decide_eq_false_iff_not]; omega
theorem in_eq (a b c : Int) : spec_l01In.f a b c = some (decide (b ≤ a ∧ a ≤ c)) := by
  unfold spec_l01In.f
  by_cases h : a ≥ b
  · rw [if_pos h]; congr 1; rw [decide_eq_decide]; omega
  · rw [if_neg h]; congr 1; symm; rw [decide_eq_false_iff_not]; omega

theorem scan4 : ∀ j : Fin 16, laws_FnExactScanAt.f 200 4 (j.val : Int) = some true := by decide +kernel
theorem scan8 : ∀ j : Fin 64, laws_FnExactScanAt.f 400 8 (j.val : Int) = some true := by decide +kernel
theorem scan_out (a b : Int) (h : ¬ (a = 4 ∧ 0 ≤ b ∧ b < 16)) (h' : ¬ (a = 8 ∧ 0 ≤ b ∧ b < 64)) : laws_FnExactScanAt.f 5 a b = some true := by
  have hs : spec_ScanAt.f 5 a b = some (-1) := by
    unfold spec_ScanAt.f
    by_cases c4 : a = 4
    · subst c4
      rw [if_pos rfl]
      by_cases c : b < 0
      · rw [if_pos c]; simp only [spec_ScanAt.j0]; rfl
      · rw [if_neg c, wrap_id (by omega) (by omega), show decide (b ≥ 4 * 4) = true from decide_eq_true (by omega)]; simp only [spec_ScanAt.j0]; rfl
    · rw [if_neg c4]
      by_cases c8 : a = 8
      · subst c8
        rw [if_pos rfl]
        by_cases c : b < 0
        · rw [if_pos c]; simp only [spec_ScanAt.j0]; rfl
        · rw [if_neg c, wrap_id (by omega) (by omega), show decide (b ≥ 8 * 8) = true from decide_eq_true (by omega)]; simp only [spec_ScanAt.j0]; rfl
      · rw [if_neg c8]; simp only [spec_ScanAt.j0]; rfl
  have hi : impl_ScanAt.f 5 a b = some (-1) := by
    unfold impl_ScanAt.f
    by_cases c4 : a = 4
    · subst c4
      rw [if_pos rfl, within_eq, Option.bind_some, wrap_id (x := 4 * 4) (by omega) (by omega), wrap_id (by omega) (by omega), if_neg (by simp; omega)]
    · rw [if_neg c4]
      by_cases c8 : a = 8
      · subst c8
        rw [if_pos rfl, within_eq, Option.bind_some, wrap_id (x := 8 * 8) (by omega) (by omega), wrap_id (by omega) (by omega), if_neg (by simp; omega)]
      · rw [if_neg c8]
  unfold laws_FnExactScanAt.f
  rw [hs, hi]
  rfl
theorem FnExactScanAt : laws_FnExactScanAt.Pure := by
  intro a b _ _
  by_cases h : a = 4 ∧ 0 ≤ b ∧ b < 16
  · obtain ⟨rfl, h0, h1⟩ := h
    obtain ⟨j, rfl⟩ : ∃ j : Fin 16, (j.val : Int) = b := ⟨⟨b.toNat, by omega⟩, by simp; omega⟩
    exact ⟨200, scan4 j⟩
  · by_cases h' : a = 8 ∧ 0 ≤ b ∧ b < 64
    · obtain ⟨rfl, h0, h1⟩ := h'
      obtain ⟨j, rfl⟩ : ∃ j : Fin 64, (j.val : Int) = b := ⟨⟨b.toNat, by omega⟩, by simp; omega⟩
      exact ⟨400, scan8 j⟩
    · exact ⟨5, scan_out a b h h'⟩

end Go.Proofs.Ytnjilcgnkiddmaa.Pure
