-- XPRINTED: written by a program of this session (wip/xprint), which turns the kit's print
import Derived.Test.YtejjmidhkalfeaaPFnExactPlaceOfx0
import Derived.Test.YtejjmidhkalfeaaPFnExactPlaceOfx1
namespace Go.Proofs.Ytejjmidhkalfeaa.PFnExactPlaceOf
open Go.RowKit Go.Proofs.YtejjmidhkalfeaaW.PrintWords Go.Proofs.YtejjmidhkalfeaaW.PrintLast Go.Proofs.YtejjmidhkalfeaaW.PrintMore
attribute [local go_sem] max2_int min2_int max_two min_two max_three min_three max_four min_four   -- for this text's walks alone
set_option linter.unusedVariables false
set_option linter.unusedSimpArgs false

end Go.Proofs.Ytejjmidhkalfeaa.PFnExactPlaceOf
