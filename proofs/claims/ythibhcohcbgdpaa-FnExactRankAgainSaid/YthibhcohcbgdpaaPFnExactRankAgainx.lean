-- laid by myprint.py (a program of this session's, over the kit's printer)
import Derived.Test.YthibhcohcbgdpaaPFnExactRankAgainx0
import Derived.Test.YthibhcohcbgdpaaPFnExactRankAgainx1
import Derived.Test.YthibhcohcbgdpaaPFnExactRankAgainx2
namespace Go.Proofs.Ythibhcohcbgdpaa.PFnExactRankAgain
open Go.RowKit Go.Proofs.Ythibhcohcbgdpaa.H Go.Proofs.YthibhcohcbgdpaaW.PrintWords Go.Proofs.YthibhcohcbgdpaaW.PrintLast Go.Proofs.YthibhcohcbgdpaaW.PrintMore
attribute [local go_sem] max2_int min2_int max_two min_two max_three min_three max_four min_four   -- for this text's walks alone
set_option linter.unusedVariables false
set_option linter.unusedSimpArgs false

end Go.Proofs.Ythibhcohcbgdpaa.PFnExactRankAgain
