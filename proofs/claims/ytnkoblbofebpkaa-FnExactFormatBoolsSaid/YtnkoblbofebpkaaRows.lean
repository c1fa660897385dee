/-
  No cell of these rows narrows 'for every input' (looked for: loops, veiled, ifaces, maps, wideKeys, modest, calm, conditions, laid).
  DERIVED. THE GIVEN ROWS OF THIS SEAT. 6 by the template 'for every input the law returns true; each argument reads behind the call as it read before'; 0 by the template 'total and deterministic' (their statements: YtnkoblbofebpkaaTotals.lean).
  GIVEN WITH THE SEED: the statements are not yours to turn. If you find one false, say at which input.
  Laid BY PROGRAM, IN A SANDBOX (cutbox-rows.mjs): the forced cells as the released guide's own fill.sh prints them over the translation 95162304fe0f7ee4… (all of the seat's roots in one cut). By AI agents, Wed Nov 11 2026. No macro, syntax, notation, axiom, sorry.
-/
import Derived.Test.YtnkoblbofebpkaaChecked
import GoSem.Claim
import GoSem.ClaimJoined
import GoSem.ClaimMapViews
import Derived.JoinedTies
import Derived.KernelRfl
namespace Go.Proofs.Ytnkoblbofebpkaa
/- THE CELL 'sum', in the pinned program and in every row, IS THE sha256 OF THE DUMP (.gsa) THAT YtnkoblbofebpkaaProg.lean LOADS. Nothing in Lean hashes anything: it is a label: what it is worth is what the hold of that sum in a sandbox is worth. -/
noncomputable def Try.pinned : Pinned := { name := "ytnkoblbofebpkaa", sum := "95162304fe0f7ee4c42315fb5efa5ed444d3afaf18675fd79c20f02d7df5ffa7", checked := Try.checked }
namespace Rows
def none {H : Type} : Left H := { results := [], args := [] }

/-- 'laws.FnExactCallersOk': WHATEVER THE INPUT: true; the input reads as it did. -/
def fnExactCallersOkSpec : ChangeSpec := { name := "fnExactCallersOk", fn := fun _ => fun
  | [d] => { results := [.lit (.bool true)], args := [d] }
  | _ => none }
def fnExactCallersOkRow : OpenClaim := { program := "ytnkoblbofebpkaa", sum := "95162304fe0f7ee4c42315fb5efa5ed444d3afaf18675fd79c20f02d7df5ffa7", func := "loop.example/g00945/laws.FnExactCallersOk", spec := "fnExactCallersOk", apart := false }
def FnExactCallersOkSaid : Prop := fnExactCallersOkRow.holds Try.pinned (OpenSpec.ofChange fnExactCallersOkSpec)

/-- ITS FALSE NEIGHBOUR: 'it returns false'. Refute it at one input. -/
def fnExactCallersOkWrong : ChangeSpec := { name := "fnExactCallersOk", fn := fun _ => fun
  | [d] => { results := [.lit (.bool false)], args := [d] }
  | _ => none }
def FnExactCallersOkWrongFalsely : Prop := fnExactCallersOkRow.holds Try.pinned (OpenSpec.ofChange fnExactCallersOkWrong)

/-- 'laws.FnExactDeliveredOf': WHATEVER THE INPUT: true; the input reads as it did. -/
def fnExactDeliveredOfSpec : ChangeSpec := { name := "fnExactDeliveredOf", fn := fun _ => fun
  | [d] => { results := [.lit (.bool true)], args := [d] }
  | _ => none }
def fnExactDeliveredOfRow : OpenClaim := { program := "ytnkoblbofebpkaa", sum := "95162304fe0f7ee4c42315fb5efa5ed444d3afaf18675fd79c20f02d7df5ffa7", func := "loop.example/g00945/laws.FnExactDeliveredOf", spec := "fnExactDeliveredOf", apart := false }
def FnExactDeliveredOfSaid : Prop := fnExactDeliveredOfRow.holds Try.pinned (OpenSpec.ofChange fnExactDeliveredOfSpec)

/-- ITS FALSE NEIGHBOUR: 'it returns false'. Refute it at one input. -/
def fnExactDeliveredOfWrong : ChangeSpec := { name := "fnExactDeliveredOf", fn := fun _ => fun
  | [d] => { results := [.lit (.bool false)], args := [d] }
  | _ => none }
def FnExactDeliveredOfWrongFalsely : Prop := fnExactDeliveredOfRow.holds Try.pinned (OpenSpec.ofChange fnExactDeliveredOfWrong)

/-- 'laws.FnExactFactsText': WHATEVER THE INPUT: true; the input reads as it did. -/
def fnExactFactsTextSpec : ChangeSpec := { name := "fnExactFactsText", fn := fun _ => fun
  | [d] => { results := [.lit (.bool true)], args := [d] }
  | _ => none }
def fnExactFactsTextRow : OpenClaim := { program := "ytnkoblbofebpkaa", sum := "95162304fe0f7ee4c42315fb5efa5ed444d3afaf18675fd79c20f02d7df5ffa7", func := "loop.example/g00945/laws.FnExactFactsText", spec := "fnExactFactsText", apart := false }
def FnExactFactsTextSaid : Prop := fnExactFactsTextRow.holds Try.pinned (OpenSpec.ofChange fnExactFactsTextSpec)

/-- ITS FALSE NEIGHBOUR: 'it returns false'. Refute it at one input. -/
def fnExactFactsTextWrong : ChangeSpec := { name := "fnExactFactsText", fn := fun _ => fun
  | [d] => { results := [.lit (.bool false)], args := [d] }
  | _ => none }
def FnExactFactsTextWrongFalsely : Prop := fnExactFactsTextRow.holds Try.pinned (OpenSpec.ofChange fnExactFactsTextWrong)

/-- 'laws.FnExactFormatBools': WHATEVER THE INPUT: true; the input reads as it did. -/
def fnExactFormatBoolsSpec : ChangeSpec := { name := "fnExactFormatBools", fn := fun _ => fun
  | [d] => { results := [.lit (.bool true)], args := [d] }
  | _ => none }
def fnExactFormatBoolsRow : OpenClaim := { program := "ytnkoblbofebpkaa", sum := "95162304fe0f7ee4c42315fb5efa5ed444d3afaf18675fd79c20f02d7df5ffa7", func := "loop.example/g00945/laws.FnExactFormatBools", spec := "fnExactFormatBools", apart := false }
def FnExactFormatBoolsSaid : Prop := fnExactFormatBoolsRow.holds Try.pinned (OpenSpec.ofChange fnExactFormatBoolsSpec)

/-- ITS FALSE NEIGHBOUR: 'it returns false'. Refute it at one input. -/
def fnExactFormatBoolsWrong : ChangeSpec := { name := "fnExactFormatBools", fn := fun _ => fun
  | [d] => { results := [.lit (.bool false)], args := [d] }
  | _ => none }
def FnExactFormatBoolsWrongFalsely : Prop := fnExactFormatBoolsRow.holds Try.pinned (OpenSpec.ofChange fnExactFormatBoolsWrong)

/-- 'laws.FnExactStateOk': WHATEVER THE INPUT: true; the input reads as it did. -/
def fnExactStateOkSpec : ChangeSpec := { name := "fnExactStateOk", fn := fun _ => fun
  | [d] => { results := [.lit (.bool true)], args := [d] }
  | _ => none }
def fnExactStateOkRow : OpenClaim := { program := "ytnkoblbofebpkaa", sum := "95162304fe0f7ee4c42315fb5efa5ed444d3afaf18675fd79c20f02d7df5ffa7", func := "loop.example/g00945/laws.FnExactStateOk", spec := "fnExactStateOk", apart := false }
def FnExactStateOkSaid : Prop := fnExactStateOkRow.holds Try.pinned (OpenSpec.ofChange fnExactStateOkSpec)

/-- ITS FALSE NEIGHBOUR: 'it returns false'. Refute it at one input. -/
def fnExactStateOkWrong : ChangeSpec := { name := "fnExactStateOk", fn := fun _ => fun
  | [d] => { results := [.lit (.bool false)], args := [d] }
  | _ => none }
def FnExactStateOkWrongFalsely : Prop := fnExactStateOkRow.holds Try.pinned (OpenSpec.ofChange fnExactStateOkWrong)

/-- 'laws.FnExactFirstState': WHATEVER THE INPUT: true; the input reads as it did. -/
def fnExactFirstStateSpec : ChangeSpec := { name := "fnExactFirstState", fn := fun _ => fun
  | [d] => { results := [.lit (.bool true)], args := [d] }
  | _ => none }
def fnExactFirstStateRow : OpenClaim := { program := "ytnkoblbofebpkaa", sum := "95162304fe0f7ee4c42315fb5efa5ed444d3afaf18675fd79c20f02d7df5ffa7", func := "loop.example/g00945/laws.FnExactFirstState", spec := "fnExactFirstState", apart := false }
def FnExactFirstStateSaid : Prop := fnExactFirstStateRow.holds Try.pinned (OpenSpec.ofChange fnExactFirstStateSpec)

/-- ITS FALSE NEIGHBOUR: 'it returns false'. Refute it at one input. -/
def fnExactFirstStateWrong : ChangeSpec := { name := "fnExactFirstState", fn := fun _ => fun
  | [d] => { results := [.lit (.bool false)], args := [d] }
  | _ => none }
def FnExactFirstStateWrongFalsely : Prop := fnExactFirstStateRow.holds Try.pinned (OpenSpec.ofChange fnExactFirstStateWrong)

/- THE SECOND FORM. 'bulk': how many values and letters a reading holds, each counted each time it is reached (what is shared counts as often as it is met; a slice's spare places count too). A statement '..UptoSaid' is the law's where the arguments, and the package variables that the reading takes, are together of bulk at most 1048576: NARROWER than '..Said'. Prove '..Said' where nothing that the law and all that it calls make is longer than what came in: it says more and counts as full. Else prove '..UptoSaid'. A law counts once. -/
mutual
def uptoBulk {H : Type} : DataW H → Nat
  | .lit (.string bytes) => bytes.length + 1
  | .lit _ => 1
  | .nil => 1
  | .ptr d => uptoBulk d + 1
  | .slice elems spare => uptoBulkAll elems + uptoBulkAll spare + 1
  | .agg parts => uptoBulkAll parts + 1
  | .iface _ d => uptoBulk d + 1
  | .map entries => uptoBulkEntries entries + 1
  | .held _ => 1
def uptoBulkAll {H : Type} : List (DataW H) → Nat
  | [] => 0
  | d :: r => uptoBulk d + uptoBulkAll r
def uptoBulkEntries {H : Type} : List (Lit × DataW H) → Nat
  | [] => 0
  | x :: r => uptoBulkEntry x + uptoBulkEntries r
def uptoBulkEntry {H : Type} : Lit × DataW H → Nat
  | (.string bytes, d) => bytes.length + uptoBulk d + 1
  | (_, d) => uptoBulk d + 1
 end
def uptoSmall : (H : Type) → List (DataW H) → Bool := fun _ ds => decide (uptoBulkAll ds ≤ 1048576)
def OpenSpec.upto (s : _root_.Go.ChangeSpec) : _root_.Go.OpenSpec := { _root_.Go.OpenSpec.ofChange s with cond := some uptoSmall }

/-- 'laws.FnExactCallersOk', WHERE WHAT IT READS IS OF BULK AT MOST 1048576: true; the input reads as it did. -/
def fnExactCallersOkUptoRow : OpenClaim := { program := "ytnkoblbofebpkaa", sum := "95162304fe0f7ee4c42315fb5efa5ed444d3afaf18675fd79c20f02d7df5ffa7", func := "loop.example/g00945/laws.FnExactCallersOk", spec := "fnExactCallersOk", apart := false, narrowed := true }
def FnExactCallersOkUptoSaid : Prop := fnExactCallersOkUptoRow.holds Try.pinned (OpenSpec.upto fnExactCallersOkSpec)

/-- 'laws.FnExactDeliveredOf', WHERE WHAT IT READS IS OF BULK AT MOST 1048576: true; the input reads as it did. -/
def fnExactDeliveredOfUptoRow : OpenClaim := { program := "ytnkoblbofebpkaa", sum := "95162304fe0f7ee4c42315fb5efa5ed444d3afaf18675fd79c20f02d7df5ffa7", func := "loop.example/g00945/laws.FnExactDeliveredOf", spec := "fnExactDeliveredOf", apart := false, narrowed := true }
def FnExactDeliveredOfUptoSaid : Prop := fnExactDeliveredOfUptoRow.holds Try.pinned (OpenSpec.upto fnExactDeliveredOfSpec)

/-- 'laws.FnExactFactsText', WHERE WHAT IT READS IS OF BULK AT MOST 1048576: true; the input reads as it did. -/
def fnExactFactsTextUptoRow : OpenClaim := { program := "ytnkoblbofebpkaa", sum := "95162304fe0f7ee4c42315fb5efa5ed444d3afaf18675fd79c20f02d7df5ffa7", func := "loop.example/g00945/laws.FnExactFactsText", spec := "fnExactFactsText", apart := false, narrowed := true }
def FnExactFactsTextUptoSaid : Prop := fnExactFactsTextUptoRow.holds Try.pinned (OpenSpec.upto fnExactFactsTextSpec)

/-- 'laws.FnExactFormatBools', WHERE WHAT IT READS IS OF BULK AT MOST 1048576: true; the input reads as it did. -/
def fnExactFormatBoolsUptoRow : OpenClaim := { program := "ytnkoblbofebpkaa", sum := "95162304fe0f7ee4c42315fb5efa5ed444d3afaf18675fd79c20f02d7df5ffa7", func := "loop.example/g00945/laws.FnExactFormatBools", spec := "fnExactFormatBools", apart := false, narrowed := true }
def FnExactFormatBoolsUptoSaid : Prop := fnExactFormatBoolsUptoRow.holds Try.pinned (OpenSpec.upto fnExactFormatBoolsSpec)

/-- 'laws.FnExactStateOk', WHERE WHAT IT READS IS OF BULK AT MOST 1048576: true; the input reads as it did. -/
def fnExactStateOkUptoRow : OpenClaim := { program := "ytnkoblbofebpkaa", sum := "95162304fe0f7ee4c42315fb5efa5ed444d3afaf18675fd79c20f02d7df5ffa7", func := "loop.example/g00945/laws.FnExactStateOk", spec := "fnExactStateOk", apart := false, narrowed := true }
def FnExactStateOkUptoSaid : Prop := fnExactStateOkUptoRow.holds Try.pinned (OpenSpec.upto fnExactStateOkSpec)

/-- 'laws.FnExactFirstState', WHERE WHAT IT READS IS OF BULK AT MOST 1048576: true; the input reads as it did. -/
def fnExactFirstStateUptoRow : OpenClaim := { program := "ytnkoblbofebpkaa", sum := "95162304fe0f7ee4c42315fb5efa5ed444d3afaf18675fd79c20f02d7df5ffa7", func := "loop.example/g00945/laws.FnExactFirstState", spec := "fnExactFirstState", apart := false, narrowed := true }
def FnExactFirstStateUptoSaid : Prop := fnExactFirstStateUptoRow.holds Try.pinned (OpenSpec.upto fnExactFirstStateSpec)

end Rows
end Go.Proofs.Ytnkoblbofebpkaa
