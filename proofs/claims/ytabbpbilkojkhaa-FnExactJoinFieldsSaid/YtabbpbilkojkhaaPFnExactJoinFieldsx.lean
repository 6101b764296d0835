-- XPRINTED: written by a program of this session (wip/xprint), which turns the kit's print
import Derived.Test.YtabbpbilkojkhaaPFnExactJoinFieldsx0
import Derived.Test.YtabbpbilkojkhaaPFnExactJoinFieldsx1
import Derived.Test.YtabbpbilkojkhaaPFnExactJoinFieldsx2
namespace Go.Proofs.Ytabbpbilkojkhaa.PFnExactJoinFields
open Go.RowKit Go.Proofs.YtabbpbilkojkhaaW.PrintWords Go.Proofs.YtabbpbilkojkhaaW.PrintLast Go.Proofs.YtabbpbilkojkhaaW.PrintMore
attribute [local go_sem] max2_int min2_int max_two min_two max_three min_three max_four min_four   -- for this text's walks alone
set_option linter.unusedVariables false
set_option linter.unusedSimpArgs false

end Go.Proofs.Ytabbpbilkojkhaa.PFnExactJoinFields
