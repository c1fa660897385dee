-- laid by myprint.py (a program of this session's, over the kit's printer)
import Derived.Test.YtcdaflkkmgofdaaPFnExactNewConsolex0
import Derived.Test.YtcdaflkkmgofdaaPFnExactNewConsolex1
import Derived.Test.YtcdaflkkmgofdaaPFnExactNewConsolex2
import Derived.Test.YtcdaflkkmgofdaaPFnExactNewConsolex3
namespace Go.Proofs.Ytcdaflkkmgofdaa.PFnExactNewConsole
open Go.RowKit Go.Proofs.Ytcdaflkkmgofdaa.H Go.Proofs.YtcdaflkkmgofdaaW.PrintWords Go.Proofs.YtcdaflkkmgofdaaW.PrintLast Go.Proofs.YtcdaflkkmgofdaaW.PrintMore
attribute [local go_sem] max2_int min2_int max_two min_two max_three min_three max_four min_four   -- for this text's walks alone
set_option linter.unusedVariables false
set_option linter.unusedSimpArgs false

end Go.Proofs.Ytcdaflkkmgofdaa.PFnExactNewConsole
