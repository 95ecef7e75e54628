/- The program's CondOk answers what the reference's CondOk answers, for all conditions. No condition beside the row's own. -/
import Derived.Test.YtnjilcgnkiddmaaQFnExactCondOkx1
namespace Go.Proofs.Ytnjilcgnkiddmaa.Pure
open Go.RowKit Go.Proofs.Ytnjilcgnkiddmaa.QFnExactCondOk Go.Proofs.YtnjilcgnkiddmaaW.PrintWords Go.Proofs.YtnjilcgnkiddmaaW.PrintLast Go.Proofs.YtnjilcgnkiddmaaW.PrintMore
set_option linter.unusedVariables false
set_option linter.unusedSimpArgs false

theorem wrap_id {x : Int} (h0 : -9223372036854775808 ≤ x) (h1 : x ≤ 9223372036854775807) : wrap64 x = x := by
  unfold wrap64
  omega
theorem wf64 {n : Int} (h : (Lit.int .i64 n).wf = true) : -9223372036854775808 ≤ n ∧ n ≤ 9223372036854775807 := by
  simp [Lit.wf, IntKind.min, IntKind.max, IntKind.signed, IntKind.bits] at h
  omega
theorem wfu8 {n : Int} (h : (Lit.int .u8 n).wf = true) : 0 ≤ n ∧ n ≤ 255 := by
  simp [Lit.wf, IntKind.min, IntKind.max, IntKind.signed, IntKind.bits] at h
  omega
theorem within_eq (a b c : Int) : impl_within.f a b c = some (decide (b ≤ a ∧ a ≤ c)) := by
  unfold impl_within.f
  by_cases h : a ≥ b
  · rw [if_pos h]; congr 1; rw [decide_eq_decide]; omega
  · rw [if_neg h]; congr 1; symm; rw [decide_eq_false_iff_not]; omega
theorem in_eq (a b c : Int) : spec_l01In.f a b c = some (decide (b ≤ a ∧ a ≤ c)) := by
  unfold spec_l01In.f
  by_cases h : a ≥ b
  · rw [if_pos h]; congr 1; rw [decide_eq_decide]; omega
  · rw [if_neg h]; congr 1; symm; rw [decide_eq_false_iff_not]; omega

theorem cond_same (a : Bool) (q : Int) (l e : Bool) : impl_CondOk.f a q l e = spec_CondOk.f a q l e := by
  unfold impl_CondOk.f spec_CondOk.f
  rw [within_eq, in_eq]
theorem cond_some (a : Bool) (q : Int) (l e : Bool) : ∃ r, spec_CondOk.f a q l e = some r := by
  unfold spec_CondOk.f
  rw [in_eq, Option.bind_some]
  split
  · split
    · exact ⟨_, rfl⟩
    · exact ⟨_, rfl⟩
  · exact ⟨_, rfl⟩

theorem FnExactCondOk : laws_FnExactCondOk.Pure := by
  intro a q l e _
  unfold laws_FnExactCondOk.f laws_toCond.f
  simp only [Option.bind_some, cond_same]
  obtain ⟨r, hr⟩ := cond_some a q l e
  rw [hr]
  simp

end Go.Proofs.Ytnjilcgnkiddmaa.Pure
