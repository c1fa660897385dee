-- PRINTED BY print.sh 35421559b90ae4d0a3588c463048766b98c2df88dd9212a6774a882060cdf62d: not written by this session
import Derived.Test.YtnkoblbofebpkaaProg
import Derived.Below
import Derived.Deep.Draws
import Derived.Deep.AppendLies
import Derived.Maps.AppendAt
import Derived.OwnWalk
import Derived.Laws.BytesArg
import Derived.Laws.MakeOwn
import Derived.Laws.OwnMore
import Derived.Deep.OwnRows
import Derived.Tactics
import Derived.Lib.ConvBytes
import Derived.Laws.Slices
import Derived.WalkKit
import Derived.KernelRfl
import Derived.RowKit3
import Derived.Deep.LoopGhost
import Derived.Deep.QuietTactic
import Derived.BigQuiet
import Derived.WideLaws
import Derived.Deep.DeepCutAuto
import Derived.Deep.CutBlock
import Derived.Deep.RegionHeld3
import Derived.Laws.Rows
import Derived.Lib.AppendStr
import Derived.ArgAppend
import Derived.Laws.IdiomCopy
import Derived.OrdersHeld
import Derived.Laws.BitsLemmas
import Derived.RowKit
import Derived.Test.YtnkoblbofebpkaaWWords
import Derived.Test.YtnkoblbofebpkaaWLast
import Derived.Test.YtnkoblbofebpkaaWTab
import Derived.Test.YtnkoblbofebpkaaWFour
import Derived.Test.YtnkoblbofebpkaaWQPut
import Derived.Test.YtnkoblbofebpkaaWApart
import Derived.Test.YtnkoblbofebpkaaWArr
import Derived.Test.YtnkoblbofebpkaaWZeros
import Derived.Test.YtnkoblbofebpkaaWFoot
import Derived.Test.YtnkoblbofebpkaaWKept
import Derived.Test.YtnkoblbofebpkaaWShare
import Derived.Test.YtnkoblbofebpkaaWN
import Derived.Test.YtnkoblbofebpkaaWFootNe
import Derived.Test.YtnkoblbofebpkaaWAt
import Derived.Test.YtnkoblbofebpkaaWEqStruct
import Derived.Test.YtnkoblbofebpkaaWRepsOne
import Derived.Test.YtnkoblbofebpkaaWInv
import Derived.Test.YtnkoblbofebpkaaWInvWords
import Derived.Test.YtnkoblbofebpkaaWGuard
import Derived.Test.YtnkoblbofebpkaaWNEv
import Derived.Test.YtnkoblbofebpkaaWMore
namespace Go.Proofs.Ytnkoblbofebpkaa.PFnExactFormatBools
open Go.RowKit Go.Proofs.YtnkoblbofebpkaaW.PrintWords Go.Proofs.YtnkoblbofebpkaaW.PrintLast Go.Proofs.YtnkoblbofebpkaaW.PrintMore
attribute [local go_sem] max2_int min2_int max_two min_two max_three min_three max_four min_four   -- for this text's walks alone
set_option linter.unusedVariables false
set_option linter.unusedSimpArgs false



def errW : Option Int → Value
  | none => .nilIface
  | some c => .iface 0 (.int .i64 c)
theorem errW_none : errW none = .nilIface := rfl
theorem errW_some (c : Int) : errW (some c) = .iface 0 (.int .i64 c) := rfl

theorem info4 : (Try.prog.info? 4).map (fun i => (i.zero, i.size, i.bytes)) = some (some (.bool false), 1, 1) := by kernel_rfl
-- the values' own types

end Go.Proofs.Ytnkoblbofebpkaa.PFnExactFormatBools
