-- XPRINTED: written by a program of this session (wip/xprint), which turns the kit's print
import Derived.Test.YtegllcjlngdijaaDoorPFnExactLinesx0
import Derived.Test.YtegllcjlngdijaaDoorPFnExactLinesx1
import Derived.Test.YtegllcjlngdijaaDoorPFnExactLinesx2
namespace Go.Proofs.YtegllcjlngdijaaDoor.PFnExactLines
open Go.RowKit Go.Proofs.YtegllcjlngdijaaDoorW.PrintWords Go.Proofs.YtegllcjlngdijaaDoorW.PrintLast Go.Proofs.YtegllcjlngdijaaDoorW.PrintMore
attribute [local go_sem] max2_int min2_int max_two min_two max_three min_three max_four min_four   -- for this text's walks alone
set_option linter.unusedVariables false
set_option linter.unusedSimpArgs false

end Go.Proofs.YtegllcjlngdijaaDoor.PFnExactLines
