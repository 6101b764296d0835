-- XPRINTED: written by a program of this session (wip/xprint), which turns the kit's print
import Derived.Test.YtlemhidllcbadaaDoorPFnExactPlaceKindsx0
import Derived.Test.YtlemhidllcbadaaDoorPFnExactPlaceKindsx1
import Derived.Test.YtlemhidllcbadaaDoorPFnExactPlaceKindsx2
import Derived.Test.YtlemhidllcbadaaDoorPFnExactPlaceKindsx3
import Derived.Test.YtlemhidllcbadaaDoorPFnExactPlaceKindsx4
import Derived.Test.YtlemhidllcbadaaDoorPFnExactPlaceKindsx5
namespace Go.Proofs.YtlemhidllcbadaaDoor.PFnExactPlaceKinds
open Go.RowKit Go.Proofs.YtlemhidllcbadaaDoorW.PrintWords Go.Proofs.YtlemhidllcbadaaDoorW.PrintLast Go.Proofs.YtlemhidllcbadaaDoorW.PrintMore
attribute [local go_sem] max2_int min2_int max_two min_two max_three min_three max_four min_four   -- for this text's walks alone
set_option linter.unusedVariables false
set_option linter.unusedSimpArgs false

end Go.Proofs.YtlemhidllcbadaaDoor.PFnExactPlaceKinds
