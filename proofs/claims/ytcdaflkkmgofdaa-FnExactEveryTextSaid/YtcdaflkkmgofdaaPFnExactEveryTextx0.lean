-- laid by myprint.py (a program of this session's, over the kit's printer)
import Derived.Test.YtcdaflkkmgofdaaProg
import Derived.Below
import Derived.Deep.Draws
import Derived.Deep.AppendLies
import Derived.Maps.AppendAt
import Derived.OwnWalk
import Derived.Laws.BytesArg
import Derived.Laws.MakeOwn
import Derived.Laws.OwnMore
import Derived.Deep.OwnRows
import Derived.Tactics
import Derived.Lib.ConvBytes
import Derived.Laws.Slices
import Derived.WalkKit
import Derived.KernelRfl
import Derived.RowKit3
import Derived.Deep.LoopGhost
import Derived.Deep.QuietTactic
import Derived.BigQuiet
import Derived.WideLaws
import Derived.Deep.DeepCutAuto
import Derived.Deep.CutBlock
import Derived.Deep.RegionHeld3
import Derived.Laws.Rows
import Derived.Lib.AppendStr
import Derived.ArgAppend
import Derived.Laws.IdiomCopy
import Derived.OrdersHeld
import Derived.Laws.BitsLemmas
import Derived.RowKit
import Derived.Test.YtcdaflkkmgofdaaHRepeat
import Derived.Test.YtcdaflkkmgofdaaWWords
import Derived.Test.YtcdaflkkmgofdaaWLast
import Derived.Test.YtcdaflkkmgofdaaWTab
import Derived.Test.YtcdaflkkmgofdaaWFour
import Derived.Test.YtcdaflkkmgofdaaWQPut
import Derived.Test.YtcdaflkkmgofdaaWApart
import Derived.Test.YtcdaflkkmgofdaaWArr
import Derived.Test.YtcdaflkkmgofdaaWZeros
import Derived.Test.YtcdaflkkmgofdaaWFoot
import Derived.Test.YtcdaflkkmgofdaaWKept
import Derived.Test.YtcdaflkkmgofdaaWShare
import Derived.Test.YtcdaflkkmgofdaaWN
import Derived.Test.YtcdaflkkmgofdaaWFootNe
import Derived.Test.YtcdaflkkmgofdaaWAt
import Derived.Test.YtcdaflkkmgofdaaWEqStruct
import Derived.Test.YtcdaflkkmgofdaaWRepsOne
import Derived.Test.YtcdaflkkmgofdaaWInv
import Derived.Test.YtcdaflkkmgofdaaWInvWords
import Derived.Test.YtcdaflkkmgofdaaWGuard
import Derived.Test.YtcdaflkkmgofdaaWNEv
import Derived.Test.YtcdaflkkmgofdaaWMore
namespace Go.Proofs.Ytcdaflkkmgofdaa.PFnExactEveryText
open Go.RowKit Go.Proofs.Ytcdaflkkmgofdaa.H Go.Proofs.YtcdaflkkmgofdaaW.PrintWords Go.Proofs.YtcdaflkkmgofdaaW.PrintLast Go.Proofs.YtcdaflkkmgofdaaW.PrintMore
attribute [local go_sem] max2_int min2_int max_two min_two max_three min_three max_four min_four   -- for this text's walks alone
set_option linter.unusedVariables false
set_option linter.unusedSimpArgs false



def errW : Option Int → Value
  | none => .nilIface
  | some c => .iface 0 (.int .i64 c)
theorem errW_none : errW none = .nilIface := rfl
theorem errW_some (c : Int) : errW (some c) = .iface 0 (.int .i64 c) := rfl

-- the values' own types

end Go.Proofs.Ytcdaflkkmgofdaa.PFnExactEveryText
