-- XPRINTED: written by a program of this session (wip/xprint), which turns the kit's print
import Derived.Test.YtmddcohelcciaaaPFnExactReOkx0
import Derived.Test.YtmddcohelcciaaaPFnExactReOkx1
import Derived.Test.YtmddcohelcciaaaPFnExactReOkx2
import Derived.Test.YtmddcohelcciaaaPFnExactReOkx3
import Derived.Test.YtmddcohelcciaaaPFnExactReOkx4
import Derived.Test.YtmddcohelcciaaaPFnExactReOkx5
import Derived.Test.YtmddcohelcciaaaPFnExactReOkx6
import Derived.Test.YtmddcohelcciaaaPFnExactReOkx7
namespace Go.Proofs.Ytmddcohelcciaaa.PFnExactReOk
open Go.RowKit Go.Proofs.YtmddcohelcciaaaW.PrintWords Go.Proofs.YtmddcohelcciaaaW.PrintLast Go.Proofs.YtmddcohelcciaaaW.PrintMore
attribute [local go_sem] max2_int min2_int max_two min_two max_three min_three max_four min_four   -- for this text's walks alone
set_option linter.unusedVariables false
set_option linter.unusedSimpArgs false

end Go.Proofs.Ytmddcohelcciaaa.PFnExactReOk
