-- XPRINTED: written by a program of this session (wip/xprint), which turns the kit's print
import Derived.Test.YtmddcohelcciaaaPFnExactReTextx0
import Derived.Test.YtmddcohelcciaaaPFnExactReTextx1
import Derived.Test.YtmddcohelcciaaaPFnExactReTextx2
import Derived.Test.YtmddcohelcciaaaPFnExactReTextx3
import Derived.Test.YtmddcohelcciaaaPFnExactReTextx4
import Derived.Test.YtmddcohelcciaaaPFnExactReTextx5
import Derived.Test.YtmddcohelcciaaaPFnExactReTextx6
import Derived.Test.YtmddcohelcciaaaPFnExactReTextx7
import Derived.Test.YtmddcohelcciaaaPFnExactReTextx8
import Derived.Test.YtmddcohelcciaaaPFnExactReTextx9
import Derived.Test.YtmddcohelcciaaaPFnExactReTextx10
import Derived.Test.YtmddcohelcciaaaPFnExactReTextx11
import Derived.Test.YtmddcohelcciaaaPFnExactReTextx12
import Derived.Test.YtmddcohelcciaaaPFnExactReTextx13
namespace Go.Proofs.Ytmddcohelcciaaa.PFnExactReText
open Go.RowKit Go.Proofs.YtmddcohelcciaaaW.PrintWords Go.Proofs.YtmddcohelcciaaaW.PrintLast Go.Proofs.YtmddcohelcciaaaW.PrintMore
attribute [local go_sem] max2_int min2_int max_two min_two max_three min_three max_four min_four   -- for this text's walks alone
set_option linter.unusedVariables false
set_option linter.unusedSimpArgs false

end Go.Proofs.Ytmddcohelcciaaa.PFnExactReText
