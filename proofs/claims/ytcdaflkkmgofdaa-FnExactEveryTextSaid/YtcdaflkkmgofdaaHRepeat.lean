/-
  CONTRACT BY HAND over the shelf's: strings.Repeat: as many copies of the bytes.
-/
import Derived.Test.YtcdaflkkmgofdaaShRep
import Derived.Test.YtcdaflkkmgofdaaWWords
import Derived.Test.YtcdaflkkmgofdaaWMore
namespace Go.Proofs.Ytcdaflkkmgofdaa.H
open Go.RowKit Go.Proofs.YtcdaflkkmgofdaaW.PrintWords Go.Proofs.YtcdaflkkmgofdaaW.PrintLast Go.Proofs.YtcdaflkkmgofdaaW.PrintMore
def strings_Repeat.f (a0 : ByteArray) (a1 : Int) : Option ByteArray := if 0 ≤ a1 ∧ a1 ≤ 9223372036854775807 ∧ a0.size * a1.toNat ≤ 140737488355328 then some ⟨(Lib.repeatL a0.data.toList a1.toNat).toArray⟩ else none
theorem strings_Repeat.calls (a0 : ByteArray) (a1 : Int) (r : ByteArray) (w : World) (h : strings_Repeat.f a0 a1 = some r) :
    Calls Try.prog 92 #[.string a0, .int .i64 a1] w fun e w' => e = .returned (.string r) ∧ Below w.heap.size w w' := by
  unfold strings_Repeat.f at h
  by_cases hc : 0 ≤ a1 ∧ a1 ≤ 9223372036854775807 ∧ a0.size * a1.toNat ≤ 140737488355328
  · rw [if_pos hc] at h
    obtain rfl := Option.some.inj h
    have := _root_.Go.Proofs.Try.strings_Repeat a0 a1.toNat w (by omega) hc.2.2
    rw [Int.toNat_of_nonneg hc.1] at this
    exact this
  · rw [if_neg hc] at h
    cases h
end Go.Proofs.Ytcdaflkkmgofdaa.H
