-- XPRINTED: written by a program of this session (wip/xprint), which turns the kit's print
import Derived.Test.YtlemhidllcbadaaPFnExactArithx0
import Derived.Test.YtlemhidllcbadaaPFnExactArithx1
import Derived.Test.YtlemhidllcbadaaPFnExactArithx2
import Derived.Test.YtlemhidllcbadaaPFnExactArithx3
import Derived.Test.YtlemhidllcbadaaPFnExactArithx4
import Derived.Test.YtlemhidllcbadaaPFnExactArithx5
import Derived.Test.YtlemhidllcbadaaPFnExactArithx6
import Derived.Test.YtlemhidllcbadaaPFnExactArithx7
import Derived.Test.YtlemhidllcbadaaPFnExactArithx8
import Derived.Test.YtlemhidllcbadaaPFnExactArithx9
namespace Go.Proofs.Ytlemhidllcbadaa.PFnExactArith
open Go.RowKit Go.Proofs.YtlemhidllcbadaaW.PrintWords Go.Proofs.YtlemhidllcbadaaW.PrintLast Go.Proofs.YtlemhidllcbadaaW.PrintMore
attribute [local go_sem] max2_int min2_int max_two min_two max_three min_three max_four min_four   -- for this text's walks alone
set_option linter.unusedVariables false
set_option linter.unusedSimpArgs false

end Go.Proofs.Ytlemhidllcbadaa.PFnExactArith
