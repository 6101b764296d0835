-- XPRINTED: written by a program of this session (wip/xprint), which turns the kit's print
import Derived.Test.YtmddcohelcciaabPFnExactCountKindx0
import Derived.Test.YtmddcohelcciaabPFnExactCountKindx1
import Derived.Test.YtmddcohelcciaabPFnExactCountKindx2
import Derived.Test.YtmddcohelcciaabPFnExactCountKindx3
import Derived.Test.YtmddcohelcciaabPFnExactCountKindx4
import Derived.Test.YtmddcohelcciaabPFnExactCountKindx5
namespace Go.Proofs.Ytmddcohelcciaab.PFnExactCountKind
open Go.RowKit Go.Proofs.YtmddcohelcciaabW.PrintWords Go.Proofs.YtmddcohelcciaabW.PrintLast Go.Proofs.YtmddcohelcciaabW.PrintMore
attribute [local go_sem] max2_int min2_int max_two min_two max_three min_three max_four min_four   -- for this text's walks alone
set_option linter.unusedVariables false
set_option linter.unusedSimpArgs false

end Go.Proofs.Ytmddcohelcciaab.PFnExactCountKind
