/-
  FnExactCallersOk over numbers: spec and impl answer alike for every a0.
-/
import Derived.Test.YtnkoblbofebpkaaPFnExactCallersOkx
import Derived.Test.YtnkoblbofebpkaaPL
set_option linter.unusedVariables false
set_option linter.unusedSimpArgs false
namespace Go.Proofs.Ytnkoblbofebpkaa.Pure
open Go.RowKit Go.Proofs.Ytnkoblbofebpkaa.PFnExactCallersOk Go.Proofs.YtnkoblbofebpkaaW.PrintWords Go.Proofs.YtnkoblbofebpkaaW.PrintLast Go.Proofs.YtnkoblbofebpkaaW.PrintMore Go.Proofs.Ytnkoblbofebpkaa.PL

theorem within_is (a b c : Int) : impl_within.f a b c = some (decide (b ≤ a ∧ a ≤ c)) := by
  unfold impl_within.f
  by_cases h : b ≤ a <;> simp [h]
theorem l01In_is (a b c : Int) : spec_l01In.f a b c = some (decide (b ≤ a ∧ a ≤ c)) := by
  unfold spec_l01In.f
  by_cases h : b ≤ a <;> simp [h]

theorem icallers_is (a : Int) : impl_CallersOk.f a = some (decide (2 ≤ a ∧ a ≤ 5)) := by
  unfold impl_CallersOk.f; rw [within_is]; rfl
theorem scallers_is (a : Int) : spec_CallersOk.f a = some (decide (2 ≤ a ∧ a ≤ 5)) := by
  unfold spec_CallersOk.f; rw [l01In_is]; rfl

theorem FnExactCallersOk : laws_FnExactCallersOk.Pure := by
  intro a0 _
  unfold laws_FnExactCallersOk.f
  rw [scallers_is, icallers_is]
  simp

end Go.Proofs.Ytnkoblbofebpkaa.Pure
