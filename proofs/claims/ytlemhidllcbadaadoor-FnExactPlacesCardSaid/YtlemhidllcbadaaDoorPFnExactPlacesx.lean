-- XPRINTED: written by a program of this session (wip/xprint), which turns the kit's print
import Derived.Test.YtlemhidllcbadaaDoorPFnExactPlacesx0
import Derived.Test.YtlemhidllcbadaaDoorPFnExactPlacesx1
import Derived.Test.YtlemhidllcbadaaDoorPFnExactPlacesx2
import Derived.Test.YtlemhidllcbadaaDoorPFnExactPlacesx3
import Derived.Test.YtlemhidllcbadaaDoorPFnExactPlacesx4
import Derived.Test.YtlemhidllcbadaaDoorPFnExactPlacesx5
namespace Go.Proofs.YtlemhidllcbadaaDoor.PFnExactPlaces
open Go.RowKit Go.Proofs.YtlemhidllcbadaaDoorW.PrintWords Go.Proofs.YtlemhidllcbadaaDoorW.PrintLast Go.Proofs.YtlemhidllcbadaaDoorW.PrintMore
attribute [local go_sem] max2_int min2_int max_two min_two max_three min_three max_four min_four   -- for this text's walks alone
set_option linter.unusedVariables false
set_option linter.unusedSimpArgs false

end Go.Proofs.YtlemhidllcbadaaDoor.PFnExactPlaces
