/- The program's constants are the reference's; there is no argument and no condition. -/
import Derived.Test.YtbaiaflphdkecaaPFnExactConstantsx1
namespace Go.Proofs.Ytbaiaflphdkecaa.Pure
set_option linter.unusedVariables false
set_option linter.unusedSimpArgs false
open Go.RowKit Go.Proofs.Ytbaiaflphdkecaa.PFnExactConstants Go.Proofs.YtbaiaflphdkecaaW.PrintWords Go.Proofs.YtbaiaflphdkecaaW.PrintLast Go.Proofs.YtbaiaflphdkecaaW.PrintMore

theorem FnExactConstants : laws_FnExactConstants.Pure := rfl

end Go.Proofs.Ytbaiaflphdkecaa.Pure
