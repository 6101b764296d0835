-- XPRINTED: written by a program of this session (wip/xprint), which turns the kit's print
import Derived.Test.YtejjmidhkalfeaaPFnExactCellOkx0
import Derived.Test.YtejjmidhkalfeaaPFnExactCellOkx1
import Derived.Test.YtejjmidhkalfeaaPFnExactCellOkx2
import Derived.Test.YtejjmidhkalfeaaPFnExactCellOkx3
import Derived.Test.YtejjmidhkalfeaaPFnExactCellOkx4
import Derived.Test.YtejjmidhkalfeaaPFnExactCellOkx5
namespace Go.Proofs.Ytejjmidhkalfeaa.PFnExactCellOk
open Go.RowKit Go.Proofs.YtejjmidhkalfeaaW.PrintWords Go.Proofs.YtejjmidhkalfeaaW.PrintLast Go.Proofs.YtejjmidhkalfeaaW.PrintMore
attribute [local go_sem] max2_int min2_int max_two min_two max_three min_three max_four min_four   -- for this text's walks alone
set_option linter.unusedVariables false
set_option linter.unusedSimpArgs false

end Go.Proofs.Ytejjmidhkalfeaa.PFnExactCellOk
