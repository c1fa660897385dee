/-
  FnExactNewConsole over numbers and lists: it takes nothing, and is computed.
-/
import Derived.Test.YtcdaflkkmgofdaaPFnExactNewConsolex
import Derived.Test.YtcdaflkkmgofdaaPL
set_option linter.unusedVariables false
set_option linter.unusedSimpArgs false
namespace Go.Proofs.Ytcdaflkkmgofdaa.Pure
open Go.RowKit Go.Proofs.Ytcdaflkkmgofdaa Go.Proofs.Ytcdaflkkmgofdaa.PFnExactNewConsole Go.Proofs.YtcdaflkkmgofdaaW.PrintWords Go.Proofs.YtcdaflkkmgofdaaW.PrintLast Go.Proofs.YtcdaflkkmgofdaaW.PrintMore Go.Proofs.Ytcdaflkkmgofdaa.PL

theorem FnExactNewConsole : laws_FnExactNewConsole.Pure := by
  unfold laws_FnExactNewConsole.Pure
  exact ⟨40, by decide +kernel⟩

end Go.Proofs.Ytcdaflkkmgofdaa.Pure
