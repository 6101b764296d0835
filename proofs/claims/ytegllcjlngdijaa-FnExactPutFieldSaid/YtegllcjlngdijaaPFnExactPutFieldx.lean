-- XPRINTED: written by a program of this session (wip/xprint), which turns the kit's print
import Derived.Test.YtegllcjlngdijaaPFnExactPutFieldx0
import Derived.Test.YtegllcjlngdijaaPFnExactPutFieldx1
import Derived.Test.YtegllcjlngdijaaPFnExactPutFieldx2
import Derived.Test.YtegllcjlngdijaaPFnExactPutFieldx3
namespace Go.Proofs.Ytegllcjlngdijaa.PFnExactPutField
open Go.RowKit Go.Proofs.YtegllcjlngdijaaW.PrintWords Go.Proofs.YtegllcjlngdijaaW.PrintLast Go.Proofs.YtegllcjlngdijaaW.PrintMore
attribute [local go_sem] max2_int min2_int max_two min_two max_three min_three max_four min_four   -- for this text's walks alone
set_option linter.unusedVariables false
set_option linter.unusedSimpArgs false

end Go.Proofs.Ytegllcjlngdijaa.PFnExactPutField
