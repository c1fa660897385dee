/-
  No cell of these rows narrows 'for every input' (looked for: loops, veiled, ifaces, maps, wideKeys, modest, calm, conditions, laid).
  DERIVED. THE GIVEN ROWS OF THIS SEAT. 9 by the template 'for every input the law returns true; each argument reads behind the call as it read before'; 0 by the template 'total and deterministic' (their statements: YthibhcohcbgdpaaTotals.lean).
  GIVEN WITH THE SEED: the statements are not yours to turn. If you find one false, say at which input.
  Laid BY PROGRAM, IN A SANDBOX (cutbox-rows.mjs): the forced cells as the released guide's own fill.sh prints them over the translation f794c9ca212e4509… (all of the seat's roots in one cut). By AI agents, Wed Nov 11 2026. No macro, syntax, notation, axiom, sorry.
-/
import Derived.Test.YthibhcohcbgdpaaChecked
import GoSem.Claim
import GoSem.ClaimJoined
import GoSem.ClaimMapViews
import Derived.JoinedTies
import Derived.KernelRfl
namespace Go.Proofs.Ythibhcohcbgdpaa
/- THE CELL 'sum', in the pinned program and in every row, IS THE sha256 OF THE DUMP (.gsa) THAT YthibhcohcbgdpaaProg.lean LOADS. Nothing in Lean hashes anything: it is a label: what it is worth is what the hold of that sum in a sandbox is worth. -/
noncomputable def Try.pinned : Pinned := { name := "ythibhcohcbgdpaa", sum := "f794c9ca212e45090282341887cafb55b82887291747a34d6f2bf5c8d7739346", checked := Try.checked }
namespace Rows
def none {H : Type} : Left H := { results := [], args := [] }

/-- 'laws.FnExactGeneralsModel': WHATEVER THE INPUT: true; the input reads as it did. -/
def fnExactGeneralsModelSpec : ChangeSpec := { name := "fnExactGeneralsModel", fn := fun _ => fun
  | [d1, d2] => { results := [.lit (.bool true)], args := [d1, d2] }
  | _ => none }
def fnExactGeneralsModelRow : OpenClaim := { program := "ythibhcohcbgdpaa", sum := "f794c9ca212e45090282341887cafb55b82887291747a34d6f2bf5c8d7739346", func := "loop.example/g00945/laws.FnExactGeneralsModel", spec := "fnExactGeneralsModel", apart := false }
def FnExactGeneralsModelSaid : Prop := fnExactGeneralsModelRow.holds Try.pinned (OpenSpec.ofChange fnExactGeneralsModelSpec)

/-- ITS FALSE NEIGHBOUR: 'it returns false'. Refute it at one input. -/
def fnExactGeneralsModelWrong : ChangeSpec := { name := "fnExactGeneralsModel", fn := fun _ => fun
  | [d1, d2] => { results := [.lit (.bool false)], args := [d1, d2] }
  | _ => none }
def FnExactGeneralsModelWrongFalsely : Prop := fnExactGeneralsModelRow.holds Try.pinned (OpenSpec.ofChange fnExactGeneralsModelWrong)

/-- 'laws.FnExactNewCalls': WHATEVER THE INPUT: true; the input reads as it did. -/
def fnExactNewCallsSpec : ChangeSpec := { name := "fnExactNewCalls", fn := fun _ => fun
  | [d] => { results := [.lit (.bool true)], args := [d] }
  | _ => none }
def fnExactNewCallsRow : OpenClaim := { program := "ythibhcohcbgdpaa", sum := "f794c9ca212e45090282341887cafb55b82887291747a34d6f2bf5c8d7739346", func := "loop.example/g00945/laws.FnExactNewCalls", spec := "fnExactNewCalls", unfollowed := true, recurses := true, apart := false }
def FnExactNewCallsSaid : Prop := fnExactNewCallsRow.holds Try.pinned (OpenSpec.ofChange fnExactNewCallsSpec)

/-- ITS FALSE NEIGHBOUR: 'it returns false'. Refute it at one input. -/
def fnExactNewCallsWrong : ChangeSpec := { name := "fnExactNewCalls", fn := fun _ => fun
  | [d] => { results := [.lit (.bool false)], args := [d] }
  | _ => none }
def FnExactNewCallsWrongFalsely : Prop := fnExactNewCallsRow.holds Try.pinned (OpenSpec.ofChange fnExactNewCallsWrong)

/-- 'laws.FnExactEveryOrder': WHATEVER THE INPUT: true; the input reads as it did. -/
def fnExactEveryOrderSpec : ChangeSpec := { name := "fnExactEveryOrder", fn := fun _ => fun
  | [d] => { results := [.lit (.bool true)], args := [d] }
  | _ => none }
def fnExactEveryOrderRow : OpenClaim := { program := "ythibhcohcbgdpaa", sum := "f794c9ca212e45090282341887cafb55b82887291747a34d6f2bf5c8d7739346", func := "loop.example/g00945/laws.FnExactEveryOrder", spec := "fnExactEveryOrder", unfollowed := true, recurses := true, apart := false }
def FnExactEveryOrderSaid : Prop := fnExactEveryOrderRow.holds Try.pinned (OpenSpec.ofChange fnExactEveryOrderSpec)

/-- ITS FALSE NEIGHBOUR: 'it returns false'. Refute it at one input. -/
def fnExactEveryOrderWrong : ChangeSpec := { name := "fnExactEveryOrder", fn := fun _ => fun
  | [d] => { results := [.lit (.bool false)], args := [d] }
  | _ => none }
def FnExactEveryOrderWrongFalsely : Prop := fnExactEveryOrderRow.holds Try.pinned (OpenSpec.ofChange fnExactEveryOrderWrong)

/-- 'laws.FnOrders': WHATEVER THE INPUT: true; the input reads as it did. -/
def fnOrdersSpec : ChangeSpec := { name := "fnOrders", fn := fun _ => fun
  | [d] => { results := [.lit (.bool true)], args := [d] }
  | _ => none }
def fnOrdersRow : OpenClaim := { program := "ythibhcohcbgdpaa", sum := "f794c9ca212e45090282341887cafb55b82887291747a34d6f2bf5c8d7739346", func := "loop.example/g00945/laws.FnOrders", spec := "fnOrders", unfollowed := true, recurses := true, apart := false }
def FnOrdersSaid : Prop := fnOrdersRow.holds Try.pinned (OpenSpec.ofChange fnOrdersSpec)

/-- ITS FALSE NEIGHBOUR: 'it returns false'. Refute it at one input. -/
def fnOrdersWrong : ChangeSpec := { name := "fnOrders", fn := fun _ => fun
  | [d] => { results := [.lit (.bool false)], args := [d] }
  | _ => none }
def FnOrdersWrongFalsely : Prop := fnOrdersRow.holds Try.pinned (OpenSpec.ofChange fnOrdersWrong)

/-- 'laws.FnSafe': WHATEVER THE INPUT: true; the input reads as it did. -/
def fnSafeSpec : ChangeSpec := { name := "fnSafe", fn := fun _ => fun
  | [d] => { results := [.lit (.bool true)], args := [d] }
  | _ => none }
def fnSafeRow : OpenClaim := { program := "ythibhcohcbgdpaa", sum := "f794c9ca212e45090282341887cafb55b82887291747a34d6f2bf5c8d7739346", func := "loop.example/g00945/laws.FnSafe", spec := "fnSafe", unfollowed := true, recurses := true, apart := false }
def FnSafeSaid : Prop := fnSafeRow.holds Try.pinned (OpenSpec.ofChange fnSafeSpec)

/-- ITS FALSE NEIGHBOUR: 'it returns false'. Refute it at one input. -/
def fnSafeWrong : ChangeSpec := { name := "fnSafe", fn := fun _ => fun
  | [d] => { results := [.lit (.bool false)], args := [d] }
  | _ => none }
def FnSafeWrongFalsely : Prop := fnSafeRow.holds Try.pinned (OpenSpec.ofChange fnSafeWrong)

/-- 'laws.FnExactFewestCalls': WHATEVER THE INPUT: true; the input reads as it did. -/
def fnExactFewestCallsSpec : ChangeSpec := { name := "fnExactFewestCalls", fn := fun _ => fun
  | [d] => { results := [.lit (.bool true)], args := [d] }
  | _ => none }
def fnExactFewestCallsRow : OpenClaim := { program := "ythibhcohcbgdpaa", sum := "f794c9ca212e45090282341887cafb55b82887291747a34d6f2bf5c8d7739346", func := "loop.example/g00945/laws.FnExactFewestCalls", spec := "fnExactFewestCalls", recurses := true, apart := false }
def FnExactFewestCallsSaid : Prop := fnExactFewestCallsRow.holds Try.pinned (OpenSpec.ofChange fnExactFewestCallsSpec)

/-- ITS FALSE NEIGHBOUR: 'it returns false'. Refute it at one input. -/
def fnExactFewestCallsWrong : ChangeSpec := { name := "fnExactFewestCalls", fn := fun _ => fun
  | [d] => { results := [.lit (.bool false)], args := [d] }
  | _ => none }
def FnExactFewestCallsWrongFalsely : Prop := fnExactFewestCallsRow.holds Try.pinned (OpenSpec.ofChange fnExactFewestCallsWrong)

/-- 'laws.FnExactRankAgain': WHATEVER THE INPUT: true; the input reads as it did. -/
def fnExactRankAgainSpec : ChangeSpec := { name := "fnExactRankAgain", fn := fun _ => fun
  | [d] => { results := [.lit (.bool true)], args := [d] }
  | _ => none }
def fnExactRankAgainRow : OpenClaim := { program := "ythibhcohcbgdpaa", sum := "f794c9ca212e45090282341887cafb55b82887291747a34d6f2bf5c8d7739346", func := "loop.example/g00945/laws.FnExactRankAgain", spec := "fnExactRankAgain", recurses := true, apart := false }
def FnExactRankAgainSaid : Prop := fnExactRankAgainRow.holds Try.pinned (OpenSpec.ofChange fnExactRankAgainSpec)

/-- ITS FALSE NEIGHBOUR: 'it returns false'. Refute it at one input. -/
def fnExactRankAgainWrong : ChangeSpec := { name := "fnExactRankAgain", fn := fun _ => fun
  | [d] => { results := [.lit (.bool false)], args := [d] }
  | _ => none }
def FnExactRankAgainWrongFalsely : Prop := fnExactRankAgainRow.holds Try.pinned (OpenSpec.ofChange fnExactRankAgainWrong)

/-- 'laws.FnExactShortestCalls': WHATEVER THE INPUT: true; the input reads as it did. -/
def fnExactShortestCallsSpec : ChangeSpec := { name := "fnExactShortestCalls", fn := fun _ => fun
  | [d] => { results := [.lit (.bool true)], args := [d] }
  | _ => none }
def fnExactShortestCallsRow : OpenClaim := { program := "ythibhcohcbgdpaa", sum := "f794c9ca212e45090282341887cafb55b82887291747a34d6f2bf5c8d7739346", func := "loop.example/g00945/laws.FnExactShortestCalls", spec := "fnExactShortestCalls", unfollowed := true, recurses := true, apart := false }
def FnExactShortestCallsSaid : Prop := fnExactShortestCallsRow.holds Try.pinned (OpenSpec.ofChange fnExactShortestCallsSpec)

/-- ITS FALSE NEIGHBOUR: 'it returns false'. Refute it at one input. -/
def fnExactShortestCallsWrong : ChangeSpec := { name := "fnExactShortestCalls", fn := fun _ => fun
  | [d] => { results := [.lit (.bool false)], args := [d] }
  | _ => none }
def FnExactShortestCallsWrongFalsely : Prop := fnExactShortestCallsRow.holds Try.pinned (OpenSpec.ofChange fnExactShortestCallsWrong)

/-- 'laws.FnCalls': WHATEVER THE INPUT: true; the input reads as it did. -/
def fnCallsSpec : ChangeSpec := { name := "fnCalls", fn := fun _ => fun
  | [d] => { results := [.lit (.bool true)], args := [d] }
  | _ => none }
def fnCallsRow : OpenClaim := { program := "ythibhcohcbgdpaa", sum := "f794c9ca212e45090282341887cafb55b82887291747a34d6f2bf5c8d7739346", func := "loop.example/g00945/laws.FnCalls", spec := "fnCalls", unfollowed := true, recurses := true, apart := false }
def FnCallsSaid : Prop := fnCallsRow.holds Try.pinned (OpenSpec.ofChange fnCallsSpec)

/-- ITS FALSE NEIGHBOUR: 'it returns false'. Refute it at one input. -/
def fnCallsWrong : ChangeSpec := { name := "fnCalls", fn := fun _ => fun
  | [d] => { results := [.lit (.bool false)], args := [d] }
  | _ => none }
def FnCallsWrongFalsely : Prop := fnCallsRow.holds Try.pinned (OpenSpec.ofChange fnCallsWrong)

/- THE SECOND FORM. 'bulk': how many values and letters a reading holds, each counted each time it is reached (what is shared counts as often as it is met; a slice's spare places count too). A statement '..UptoSaid' is the law's where the arguments, and the package variables that the reading takes, are together of bulk at most 1048576: NARROWER than '..Said'. Prove '..Said' where nothing that the law and all that it calls make is longer than what came in: it says more and counts as full. Else prove '..UptoSaid'. A law counts once. -/
mutual
def uptoBulk {H : Type} : DataW H → Nat
  | .lit (.string bytes) => bytes.length + 1
  | .lit _ => 1
  | .nil => 1
  | .ptr d => uptoBulk d + 1
  | .slice elems spare => uptoBulkAll elems + uptoBulkAll spare + 1
  | .agg parts => uptoBulkAll parts + 1
  | .iface _ d => uptoBulk d + 1
  | .map entries => uptoBulkEntries entries + 1
  | .held _ => 1
def uptoBulkAll {H : Type} : List (DataW H) → Nat
  | [] => 0
  | d :: r => uptoBulk d + uptoBulkAll r
def uptoBulkEntries {H : Type} : List (Lit × DataW H) → Nat
  | [] => 0
  | x :: r => uptoBulkEntry x + uptoBulkEntries r
def uptoBulkEntry {H : Type} : Lit × DataW H → Nat
  | (.string bytes, d) => bytes.length + uptoBulk d + 1
  | (_, d) => uptoBulk d + 1
 end
def uptoSmall : (H : Type) → List (DataW H) → Bool := fun _ ds => decide (uptoBulkAll ds ≤ 1048576)
def OpenSpec.upto (s : _root_.Go.ChangeSpec) : _root_.Go.OpenSpec := { _root_.Go.OpenSpec.ofChange s with cond := some uptoSmall }

/-- 'laws.FnExactGeneralsModel', WHERE WHAT IT READS IS OF BULK AT MOST 1048576: true; the input reads as it did. -/
def fnExactGeneralsModelUptoRow : OpenClaim := { program := "ythibhcohcbgdpaa", sum := "f794c9ca212e45090282341887cafb55b82887291747a34d6f2bf5c8d7739346", func := "loop.example/g00945/laws.FnExactGeneralsModel", spec := "fnExactGeneralsModel", apart := false, narrowed := true }
def FnExactGeneralsModelUptoSaid : Prop := fnExactGeneralsModelUptoRow.holds Try.pinned (OpenSpec.upto fnExactGeneralsModelSpec)

/-- 'laws.FnExactNewCalls', WHERE WHAT IT READS IS OF BULK AT MOST 1048576: true; the input reads as it did. -/
def fnExactNewCallsUptoRow : OpenClaim := { program := "ythibhcohcbgdpaa", sum := "f794c9ca212e45090282341887cafb55b82887291747a34d6f2bf5c8d7739346", func := "loop.example/g00945/laws.FnExactNewCalls", spec := "fnExactNewCalls", unfollowed := true, recurses := true, apart := false, narrowed := true }
def FnExactNewCallsUptoSaid : Prop := fnExactNewCallsUptoRow.holds Try.pinned (OpenSpec.upto fnExactNewCallsSpec)

/-- 'laws.FnExactEveryOrder', WHERE WHAT IT READS IS OF BULK AT MOST 1048576: true; the input reads as it did. -/
def fnExactEveryOrderUptoRow : OpenClaim := { program := "ythibhcohcbgdpaa", sum := "f794c9ca212e45090282341887cafb55b82887291747a34d6f2bf5c8d7739346", func := "loop.example/g00945/laws.FnExactEveryOrder", spec := "fnExactEveryOrder", unfollowed := true, recurses := true, apart := false, narrowed := true }
def FnExactEveryOrderUptoSaid : Prop := fnExactEveryOrderUptoRow.holds Try.pinned (OpenSpec.upto fnExactEveryOrderSpec)

/-- 'laws.FnOrders', WHERE WHAT IT READS IS OF BULK AT MOST 1048576: true; the input reads as it did. -/
def fnOrdersUptoRow : OpenClaim := { program := "ythibhcohcbgdpaa", sum := "f794c9ca212e45090282341887cafb55b82887291747a34d6f2bf5c8d7739346", func := "loop.example/g00945/laws.FnOrders", spec := "fnOrders", unfollowed := true, recurses := true, apart := false, narrowed := true }
def FnOrdersUptoSaid : Prop := fnOrdersUptoRow.holds Try.pinned (OpenSpec.upto fnOrdersSpec)

/-- 'laws.FnSafe', WHERE WHAT IT READS IS OF BULK AT MOST 1048576: true; the input reads as it did. -/
def fnSafeUptoRow : OpenClaim := { program := "ythibhcohcbgdpaa", sum := "f794c9ca212e45090282341887cafb55b82887291747a34d6f2bf5c8d7739346", func := "loop.example/g00945/laws.FnSafe", spec := "fnSafe", unfollowed := true, recurses := true, apart := false, narrowed := true }
def FnSafeUptoSaid : Prop := fnSafeUptoRow.holds Try.pinned (OpenSpec.upto fnSafeSpec)

/-- 'laws.FnExactFewestCalls', WHERE WHAT IT READS IS OF BULK AT MOST 1048576: true; the input reads as it did. -/
def fnExactFewestCallsUptoRow : OpenClaim := { program := "ythibhcohcbgdpaa", sum := "f794c9ca212e45090282341887cafb55b82887291747a34d6f2bf5c8d7739346", func := "loop.example/g00945/laws.FnExactFewestCalls", spec := "fnExactFewestCalls", recurses := true, apart := false, narrowed := true }
def FnExactFewestCallsUptoSaid : Prop := fnExactFewestCallsUptoRow.holds Try.pinned (OpenSpec.upto fnExactFewestCallsSpec)

/-- 'laws.FnExactRankAgain', WHERE WHAT IT READS IS OF BULK AT MOST 1048576: true; the input reads as it did. -/
def fnExactRankAgainUptoRow : OpenClaim := { program := "ythibhcohcbgdpaa", sum := "f794c9ca212e45090282341887cafb55b82887291747a34d6f2bf5c8d7739346", func := "loop.example/g00945/laws.FnExactRankAgain", spec := "fnExactRankAgain", recurses := true, apart := false, narrowed := true }
def FnExactRankAgainUptoSaid : Prop := fnExactRankAgainUptoRow.holds Try.pinned (OpenSpec.upto fnExactRankAgainSpec)

/-- 'laws.FnExactShortestCalls', WHERE WHAT IT READS IS OF BULK AT MOST 1048576: true; the input reads as it did. -/
def fnExactShortestCallsUptoRow : OpenClaim := { program := "ythibhcohcbgdpaa", sum := "f794c9ca212e45090282341887cafb55b82887291747a34d6f2bf5c8d7739346", func := "loop.example/g00945/laws.FnExactShortestCalls", spec := "fnExactShortestCalls", unfollowed := true, recurses := true, apart := false, narrowed := true }
def FnExactShortestCallsUptoSaid : Prop := fnExactShortestCallsUptoRow.holds Try.pinned (OpenSpec.upto fnExactShortestCallsSpec)

/-- 'laws.FnCalls', WHERE WHAT IT READS IS OF BULK AT MOST 1048576: true; the input reads as it did. -/
def fnCallsUptoRow : OpenClaim := { program := "ythibhcohcbgdpaa", sum := "f794c9ca212e45090282341887cafb55b82887291747a34d6f2bf5c8d7739346", func := "loop.example/g00945/laws.FnCalls", spec := "fnCalls", unfollowed := true, recurses := true, apart := false, narrowed := true }
def FnCallsUptoSaid : Prop := fnCallsUptoRow.holds Try.pinned (OpenSpec.upto fnCallsSpec)

end Rows
end Go.Proofs.Ythibhcohcbgdpaa
