-- laid by myprint.py (a program of this session's, over the kit's printer)
import Derived.Test.YtkkmfodoilbdlaaPFnExactIsPlainx0
import Derived.Test.YtkkmfodoilbdlaaPFnExactIsPlainx1
import Derived.Test.YtkkmfodoilbdlaaPFnExactIsPlainx2
import Derived.Test.YtkkmfodoilbdlaaPFnExactIsPlainx3
import Derived.Test.YtkkmfodoilbdlaaPFnExactIsPlainx4
import Derived.Test.YtkkmfodoilbdlaaPFnExactIsPlainx5
namespace Go.Proofs.Ytkkmfodoilbdlaa.PFnExactIsPlain
open Go.RowKit Go.Proofs.Ytkkmfodoilbdlaa.H Go.Proofs.YtkkmfodoilbdlaaW.PrintWords Go.Proofs.YtkkmfodoilbdlaaW.PrintLast Go.Proofs.YtkkmfodoilbdlaaW.PrintMore
attribute [local go_sem] max2_int min2_int max_two min_two max_three min_three max_four min_four   -- for this text's walks alone
set_option linter.unusedVariables false
set_option linter.unusedSimpArgs false

end Go.Proofs.Ytkkmfodoilbdlaa.PFnExactIsPlain
