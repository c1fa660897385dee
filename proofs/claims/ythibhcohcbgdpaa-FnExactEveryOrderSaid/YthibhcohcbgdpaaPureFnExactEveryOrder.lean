/-
  FnExactEveryOrder over numbers: for 2 to 4 callers both searches are computed, elsewhere both answer 0, 0, 0.
-/
import Derived.Test.YthibhcohcbgdpaaPFnExactEveryOrderx
import Derived.Test.YthibhcohcbgdpaaPL
set_option linter.unusedVariables false
set_option linter.unusedSimpArgs false
namespace Go.Proofs.Ythibhcohcbgdpaa.Pure
open Go.RowKit Go.Proofs.Ythibhcohcbgdpaa Go.Proofs.Ythibhcohcbgdpaa.PFnExactEveryOrder Go.Proofs.YthibhcohcbgdpaaW.PrintWords Go.Proofs.YthibhcohcbgdpaaW.PrintLast Go.Proofs.YthibhcohcbgdpaaW.PrintMore Go.Proofs.Ythibhcohcbgdpaa.PL

theorem within_is (a b c : Int) : impl_within.f a b c = some (decide (b ≤ a ∧ a ≤ c)) := by
  unfold impl_within.f
  by_cases h : b ≤ a <;> simp [h]

theorem l01In_is (a b c : Int) : spec_l01In.f a b c = some (decide (b ≤ a ∧ a ≤ c)) := by
  unfold spec_l01In.f
  by_cases h : b ≤ a <;> simp [h]

theorem FnExactEveryOrder : laws_FnExactEveryOrder.Pure := by
  intro a0 _
  by_cases h : 2 ≤ a0 ∧ a0 ≤ 4
  · have : a0 = 2 ∨ a0 = 3 ∨ a0 = 4 := by omega
    rcases this with rfl | rfl | rfl <;> exact ⟨60, by decide +kernel⟩
  · refine ⟨2, ?_⟩
    unfold laws_FnExactEveryOrder.f spec_EveryOrder.f impl_EveryOrder.f
    rw [within_is, l01In_is]
    simp only [h, decide_false, Option.bind_some, Bool.false_eq_true, if_false]
    decide +kernel

end Go.Proofs.Ythibhcohcbgdpaa.Pure
