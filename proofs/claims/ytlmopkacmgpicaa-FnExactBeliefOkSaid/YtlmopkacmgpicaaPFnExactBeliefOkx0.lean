-- laid by myprint.py (a program of this session's, over the kit's printer)
import Derived.Test.YtlmopkacmgpicaaProg
import Derived.Below
import Derived.Deep.Draws
import Derived.Deep.AppendLies
import Derived.Maps.AppendAt
import Derived.OwnWalk
import Derived.Laws.BytesArg
import Derived.Laws.MakeOwn
import Derived.Laws.OwnMore
import Derived.Deep.OwnRows
import Derived.Tactics
import Derived.Lib.ConvBytes
import Derived.Laws.Slices
import Derived.WalkKit
import Derived.KernelRfl
import Derived.RowKit3
import Derived.Deep.LoopGhost
import Derived.Deep.QuietTactic
import Derived.BigQuiet
import Derived.WideLaws
import Derived.Deep.DeepCutAuto
import Derived.Deep.CutBlock
import Derived.Deep.RegionHeld3
import Derived.Laws.Rows
import Derived.Lib.AppendStr
import Derived.ArgAppend
import Derived.Laws.IdiomCopy
import Derived.OrdersHeld
import Derived.Laws.BitsLemmas
import Derived.RowKit
import Derived.Test.YtlmopkacmgpicaaHFuncI
import Derived.Test.YtlmopkacmgpicaaHRank
import Derived.Test.YtlmopkacmgpicaaWWords
import Derived.Test.YtlmopkacmgpicaaWLast
import Derived.Test.YtlmopkacmgpicaaWTab
import Derived.Test.YtlmopkacmgpicaaWFour
import Derived.Test.YtlmopkacmgpicaaWQPut
import Derived.Test.YtlmopkacmgpicaaWApart
import Derived.Test.YtlmopkacmgpicaaWArr
import Derived.Test.YtlmopkacmgpicaaWZeros
import Derived.Test.YtlmopkacmgpicaaWFoot
import Derived.Test.YtlmopkacmgpicaaWKept
import Derived.Test.YtlmopkacmgpicaaWShare
import Derived.Test.YtlmopkacmgpicaaWN
import Derived.Test.YtlmopkacmgpicaaWFootNe
import Derived.Test.YtlmopkacmgpicaaWAt
import Derived.Test.YtlmopkacmgpicaaWEqStruct
import Derived.Test.YtlmopkacmgpicaaWRepsOne
import Derived.Test.YtlmopkacmgpicaaWInv
import Derived.Test.YtlmopkacmgpicaaWInvWords
import Derived.Test.YtlmopkacmgpicaaWGuard
import Derived.Test.YtlmopkacmgpicaaWNEv
import Derived.Test.YtlmopkacmgpicaaWMore
namespace Go.Proofs.Ytlmopkacmgpicaa.PFnExactBeliefOk
open Go.RowKit Go.Proofs.Ytlmopkacmgpicaa.H Go.Proofs.YtlmopkacmgpicaaW.PrintWords Go.Proofs.YtlmopkacmgpicaaW.PrintLast Go.Proofs.YtlmopkacmgpicaaW.PrintMore
attribute [local go_sem] max2_int min2_int max_two min_two max_three min_three max_four min_four   -- for this text's walks alone
set_option linter.unusedVariables false
set_option linter.unusedSimpArgs false



def errW : Option Int → Value
  | none => .nilIface
  | some c => .iface 0 (.int .i64 c)
theorem errW_none : errW none = .nilIface := rfl
theorem errW_some (c : Int) : errW (some c) = .iface 0 (.int .i64 c) := rfl

theorem info3 : (Try.prog.info? 3).map (fun i => (i.zero, i.size, i.bytes)) = some (some (.int .i64 0), 1, 8) := by kernel_rfl
-- the values' own types

end Go.Proofs.Ytlmopkacmgpicaa.PFnExactBeliefOk
