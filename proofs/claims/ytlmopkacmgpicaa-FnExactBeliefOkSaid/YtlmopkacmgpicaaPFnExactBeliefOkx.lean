-- laid by myprint.py (a program of this session's, over the kit's printer)
import Derived.Test.YtlmopkacmgpicaaPFnExactBeliefOkx0
import Derived.Test.YtlmopkacmgpicaaPFnExactBeliefOkx1
import Derived.Test.YtlmopkacmgpicaaPFnExactBeliefOkx2
import Derived.Test.YtlmopkacmgpicaaPFnExactBeliefOkx3
import Derived.Test.YtlmopkacmgpicaaPFnExactBeliefOkx4
namespace Go.Proofs.Ytlmopkacmgpicaa.PFnExactBeliefOk
open Go.RowKit Go.Proofs.Ytlmopkacmgpicaa.H Go.Proofs.YtlmopkacmgpicaaW.PrintWords Go.Proofs.YtlmopkacmgpicaaW.PrintLast Go.Proofs.YtlmopkacmgpicaaW.PrintMore
attribute [local go_sem] max2_int min2_int max_two min_two max_three min_three max_four min_four   -- for this text's walks alone
set_option linter.unusedVariables false
set_option linter.unusedSimpArgs false

end Go.Proofs.Ytlmopkacmgpicaa.PFnExactBeliefOk
