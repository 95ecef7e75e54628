/- The program's SignOf answers what the reference's SignOf answers, for all pairs of integers. No condition beside the row's own. -/
import Derived.Test.YtnjilcgnkiddmaaPFnExactSignOfx1
namespace Go.Proofs.Ytnjilcgnkiddmaa.Pure
open Go.RowKit Go.Proofs.Ytnjilcgnkiddmaa.PFnExactSignOf Go.Proofs.YtnjilcgnkiddmaaW.PrintWords Go.Proofs.YtnjilcgnkiddmaaW.PrintLast Go.Proofs.YtnjilcgnkiddmaaW.PrintMore
set_option linter.unusedVariables false
set_option linter.unusedSimpArgs false

theorem wrap_id {x : Int} (h0 : -9223372036854775808 ≤ x) (h1 : x ≤ 9223372036854775807) : wrap64 x = x := by
  unfold wrap64
  omega
theorem wf64 {n : Int} (h : (Lit.int .i64 n).wf = true) : -9223372036854775808 ≤ n ∧ n ≤ 9223372036854775807 := by
  simp [Lit.wf, IntKind.min, IntKind.max, IntKind.signed, IntKind.bits] at h
  omega
theorem wfu8 {n : Int} (h : (Lit.int .u8 n).wf = true) : 0 ≤ n ∧ n ≤ 255 := by
  simp [Lit.wf, IntKind.min, IntKind.max, IntKind.signed, IntKind.bits] at h
  omega
theorem within_eq (a b c : Int) : impl_within.f a b c = some (decide (b ≤ a ∧ a ≤ c)) := by
  unfold impl_within.f
  by_cases h : a ≥ b
  · rw [if_pos h]; congr 1; rw [decide_eq_decide]; omega
  · rw [if_neg h]; congr 1; symm; rw [decide_eq_false_iff_not]; omega
theorem in_eq (a b c : Int) : spec_l01In.f a b c = some (decide (b ≤ a ∧ a ≤ c)) := by
  unfold spec_l01In.f
  by_cases h : a ≥ b
  · rw [if_pos h]; congr 1; rw [decide_eq_decide]; omega
  · rw [if_neg h]; congr 1; symm; rw [decide_eq_false_iff_not]; omega



theorem FnExactSignOf : laws_FnExactSignOf.Pure := by
  intro a b _ _
  refine ⟨40, ?_⟩
  by_cases h : (0 ≤ a ∧ a ≤ 7) ∧ (0 ≤ b ∧ b ≤ 7)
  · obtain ⟨i, hi⟩ : ∃ i : Fin 8, (i.val : Int) = a := ⟨⟨a.toNat, by omega⟩, by simp; omega⟩
    obtain ⟨j, hj⟩ : ∃ j : Fin 8, (j.val : Int) = b := ⟨⟨b.toNat, by omega⟩, by simp; omega⟩
    subst hi hj
    have H : ∀ i j : Fin 8, laws_FnExactSignOf.f 40 (i.val : Int) (j.val : Int) = some true := by decide +kernel
    exact H i j
  · have hs : spec_SignOf.f 40 a b = some 0 := by
      unfold spec_SignOf.f
      rw [in_eq]
      simp only [Option.bind_some]
      by_cases h1 : 0 ≤ a ∧ a ≤ 7
      · rw [if_pos (by simpa using h1), in_eq, Option.bind_some, show (!decide (0 ≤ b ∧ b ≤ 7)) = true by simp; omega]
        simp only [spec_SignOf.j0]; rfl
      · rw [if_neg (by simpa using h1)]
        simp only [spec_SignOf.j0]; rfl
    have hi : impl_SignOf.f 40 a b = some 0 := by
      unfold impl_SignOf.f
      rw [within_eq]
      simp only [Option.bind_some]
      by_cases h1 : 0 ≤ a ∧ a ≤ 7
      · rw [if_pos (by simpa using h1), within_eq, Option.bind_some, show (!decide (0 ≤ b ∧ b ≤ 7)) = true by simp; omega]
        simp only [impl_SignOf.j0]; rfl
      · rw [if_neg (by simpa using h1)]
        simp only [impl_SignOf.j0]; rfl
    unfold laws_FnExactSignOf.f
    rw [hs, hi]
    rfl

end Go.Proofs.Ytnjilcgnkiddmaa.Pure
