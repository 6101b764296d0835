-- XPRINTED: written by a program of this session (wip/xprint), which turns the kit's print
import Derived.Test.YtmddcohelcciaabPFnExactSameProgx0
import Derived.Test.YtmddcohelcciaabPFnExactSameProgx1
import Derived.Test.YtmddcohelcciaabPFnExactSameProgx2
import Derived.Test.YtmddcohelcciaabPFnExactSameProgx3
import Derived.Test.YtmddcohelcciaabPFnExactSameProgx4
import Derived.Test.YtmddcohelcciaabPFnExactSameProgx5
import Derived.Test.YtmddcohelcciaabPFnExactSameProgx6
import Derived.Test.YtmddcohelcciaabPFnExactSameProgx7
namespace Go.Proofs.Ytmddcohelcciaab.PFnExactSameProg
open Go.RowKit Go.Proofs.YtmddcohelcciaabW.PrintWords Go.Proofs.YtmddcohelcciaabW.PrintLast Go.Proofs.YtmddcohelcciaabW.PrintMore
attribute [local go_sem] max2_int min2_int max_two min_two max_three min_three max_four min_four   -- for this text's walks alone
set_option linter.unusedVariables false
set_option linter.unusedSimpArgs false

end Go.Proofs.Ytmddcohelcciaab.PFnExactSameProg
