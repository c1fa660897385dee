/-
  FnExactFirstState over numbers and lists: for 2 to 5 callers it is computed, elsewhere both answers are empty.
-/
import Derived.Test.YtnkoblbofebpkaaPFnExactFirstStatex
import Derived.Test.YtnkoblbofebpkaaPL
set_option linter.unusedVariables false
set_option linter.unusedSimpArgs false
namespace Go.Proofs.Ytnkoblbofebpkaa.Pure
open Go.RowKit Go.Proofs.Ytnkoblbofebpkaa.PFnExactFirstState Go.Proofs.YtnkoblbofebpkaaW.PrintWords Go.Proofs.YtnkoblbofebpkaaW.PrintLast Go.Proofs.YtnkoblbofebpkaaW.PrintMore Go.Proofs.Ytnkoblbofebpkaa.PL

theorem callers_no (a0 : Int) (h : ¬ (2 ≤ a0 ∧ a0 ≤ 5)) : spec_CallersOk.f a0 = some false ∧ impl_CallersOk.f a0 = some false := by
  unfold spec_CallersOk.f impl_CallersOk.f spec_l01In.f impl_within.f
  simp only [ge_iff_le]
  by_cases h1 : (2 : Int) ≤ a0
  · have h2 : ¬ a0 ≤ 5 := by omega
    simp [h1, h2]
  · simp [h1]

theorem FnExactFirstState : laws_FnExactFirstState.Pure := by
  intro a0 _
  by_cases h : 2 ≤ a0 ∧ a0 ≤ 5
  · have : a0 = 2 ∨ a0 = 3 ∨ a0 = 4 ∨ a0 = 5 := by omega
    rcases this with rfl | rfl | rfl | rfl <;> exact ⟨40, by decide +kernel⟩
  · obtain ⟨h1, h2⟩ := callers_no a0 h
    refine ⟨2, ?_⟩
    unfold laws_FnExactFirstState.f spec_FirstState.f impl_FirstState.f
    rw [h1, h2]
    simp only [Option.bind_some, Bool.false_eq_true, if_false]
    decide +kernel

end Go.Proofs.Ytnkoblbofebpkaa.Pure
