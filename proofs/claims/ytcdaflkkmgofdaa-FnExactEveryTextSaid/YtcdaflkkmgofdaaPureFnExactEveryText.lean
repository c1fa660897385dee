/-
  FnExactEveryText over numbers and strings: from 0 to 14 both texts are computed, elsewhere both are empty.
-/
import Derived.Test.YtcdaflkkmgofdaaPFnExactEveryTextx
import Derived.Test.YtcdaflkkmgofdaaPL
set_option linter.unusedVariables false
set_option linter.unusedSimpArgs false
namespace Go.Proofs.Ytcdaflkkmgofdaa.Pure
open Go.RowKit Go.Proofs.Ytcdaflkkmgofdaa Go.Proofs.Ytcdaflkkmgofdaa.PFnExactEveryText Go.Proofs.YtcdaflkkmgofdaaW.PrintWords Go.Proofs.YtcdaflkkmgofdaaW.PrintLast Go.Proofs.YtcdaflkkmgofdaaW.PrintMore Go.Proofs.Ytcdaflkkmgofdaa.PL

theorem within_is (a b c : Int) : impl_within.f a b c = some (decide (b ≤ a ∧ a ≤ c)) := by
  unfold impl_within.f
  by_cases h : b ≤ a <;> simp [h]

theorem l01In_is (a b c : Int) : spec_l01In.f a b c = some (decide (b ≤ a ∧ a ≤ c)) := by
  unfold spec_l01In.f
  by_cases h : b ≤ a <;> simp [h]

theorem FnExactEveryText : laws_FnExactEveryText.Pure := by
  intro a0 _
  by_cases h : 0 ≤ a0 ∧ a0 ≤ 14
  · have : a0 = 0 ∨ a0 = 1 ∨ a0 = 2 ∨ a0 = 3 ∨ a0 = 4 ∨ a0 = 5 ∨ a0 = 6 ∨ a0 = 7 ∨ a0 = 8 ∨ a0 = 9 ∨ a0 = 10 ∨ a0 = 11 ∨ a0 = 12 ∨ a0 = 13 ∨ a0 = 14 := by omega
    rcases this with rfl | rfl | rfl | rfl | rfl | rfl | rfl | rfl | rfl | rfl | rfl | rfl | rfl | rfl | rfl <;> exact ⟨40, by decide +kernel⟩
  · refine ⟨2, ?_⟩
    unfold laws_FnExactEveryText.f spec_EveryText.f impl_EveryText.f
    rw [within_is, l01In_is]
    simp only [h, decide_false, Option.bind_some, Bool.false_eq_true, if_false]
    decide +kernel

end Go.Proofs.Ytcdaflkkmgofdaa.Pure
