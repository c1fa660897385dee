-- laid by myprint.py (a program of this session's, over the kit's printer)
import Derived.Test.YthibhcohcbgdpaaProg
import Derived.Below
import Derived.Deep.Draws
import Derived.Deep.AppendLies
import Derived.Maps.AppendAt
import Derived.OwnWalk
import Derived.Laws.BytesArg
import Derived.Laws.MakeOwn
import Derived.Laws.OwnMore
import Derived.Deep.OwnRows
import Derived.Tactics
import Derived.Lib.ConvBytes
import Derived.Laws.Slices
import Derived.WalkKit
import Derived.KernelRfl
import Derived.RowKit3
import Derived.Deep.LoopGhost
import Derived.Deep.QuietTactic
import Derived.BigQuiet
import Derived.WideLaws
import Derived.Deep.DeepCutAuto
import Derived.Deep.CutBlock
import Derived.Deep.RegionHeld3
import Derived.Laws.Rows
import Derived.Lib.AppendStr
import Derived.ArgAppend
import Derived.Laws.IdiomCopy
import Derived.OrdersHeld
import Derived.Laws.BitsLemmas
import Derived.RowKit
import Derived.Test.YthibhcohcbgdpaaHRank
import Derived.Test.YthibhcohcbgdpaaWWords
import Derived.Test.YthibhcohcbgdpaaWLast
import Derived.Test.YthibhcohcbgdpaaWTab
import Derived.Test.YthibhcohcbgdpaaWFour
import Derived.Test.YthibhcohcbgdpaaWQPut
import Derived.Test.YthibhcohcbgdpaaWApart
import Derived.Test.YthibhcohcbgdpaaWArr
import Derived.Test.YthibhcohcbgdpaaWZeros
import Derived.Test.YthibhcohcbgdpaaWFoot
import Derived.Test.YthibhcohcbgdpaaWKept
import Derived.Test.YthibhcohcbgdpaaWShare
import Derived.Test.YthibhcohcbgdpaaWN
import Derived.Test.YthibhcohcbgdpaaWFootNe
import Derived.Test.YthibhcohcbgdpaaWAt
import Derived.Test.YthibhcohcbgdpaaWEqStruct
import Derived.Test.YthibhcohcbgdpaaWRepsOne
import Derived.Test.YthibhcohcbgdpaaWInv
import Derived.Test.YthibhcohcbgdpaaWInvWords
import Derived.Test.YthibhcohcbgdpaaWGuard
import Derived.Test.YthibhcohcbgdpaaWNEv
import Derived.Test.YthibhcohcbgdpaaWMore
namespace Go.Proofs.Ythibhcohcbgdpaa.PFnExactRankAgain
open Go.RowKit Go.Proofs.Ythibhcohcbgdpaa.H Go.Proofs.YthibhcohcbgdpaaW.PrintWords Go.Proofs.YthibhcohcbgdpaaW.PrintLast Go.Proofs.YthibhcohcbgdpaaW.PrintMore
attribute [local go_sem] max2_int min2_int max_two min_two max_three min_three max_four min_four   -- for this text's walks alone
set_option linter.unusedVariables false
set_option linter.unusedSimpArgs false



def errW : Option Int → Value
  | none => .nilIface
  | some c => .iface 0 (.int .i64 c)
theorem errW_none : errW none = .nilIface := rfl
theorem errW_some (c : Int) : errW (some c) = .iface 0 (.int .i64 c) := rfl

theorem info3 : (Try.prog.info? 3).map (fun i => (i.zero, i.size, i.bytes)) = some (some (.int .i64 0), 1, 8) := by kernel_rfl
-- the values' own types

end Go.Proofs.Ythibhcohcbgdpaa.PFnExactRankAgain
