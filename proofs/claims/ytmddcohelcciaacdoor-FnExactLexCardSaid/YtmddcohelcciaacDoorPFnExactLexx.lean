-- XPRINTED: written by a program of this session (wip/xprint), which turns the kit's print
import Derived.Test.YtmddcohelcciaacDoorPFnExactLexx0
import Derived.Test.YtmddcohelcciaacDoorPFnExactLexx1
import Derived.Test.YtmddcohelcciaacDoorPFnExactLexx2
import Derived.Test.YtmddcohelcciaacDoorPFnExactLexx3
import Derived.Test.YtmddcohelcciaacDoorPFnExactLexx4
import Derived.Test.YtmddcohelcciaacDoorPFnExactLexx5
import Derived.Test.YtmddcohelcciaacDoorPFnExactLexx6
import Derived.Test.YtmddcohelcciaacDoorPFnExactLexx7
import Derived.Test.YtmddcohelcciaacDoorPFnExactLexx8
import Derived.Test.YtmddcohelcciaacDoorPFnExactLexx9
import Derived.Test.YtmddcohelcciaacDoorPFnExactLexx10
import Derived.Test.YtmddcohelcciaacDoorPFnExactLexx11
import Derived.Test.YtmddcohelcciaacDoorPFnExactLexx12
import Derived.Test.YtmddcohelcciaacDoorPFnExactLexx13
import Derived.Test.YtmddcohelcciaacDoorPFnExactLexx14
import Derived.Test.YtmddcohelcciaacDoorPFnExactLexx15
import Derived.Test.YtmddcohelcciaacDoorPFnExactLexx16
namespace Go.Proofs.YtmddcohelcciaacDoor.PFnExactLex
open Go.RowKit Go.Proofs.YtmddcohelcciaacDoorW.PrintWords Go.Proofs.YtmddcohelcciaacDoorW.PrintLast Go.Proofs.YtmddcohelcciaacDoorW.PrintMore
attribute [local go_sem] max2_int min2_int max_two min_two max_three min_three max_four min_four   -- for this text's walks alone
set_option linter.unusedVariables false
set_option linter.unusedSimpArgs false

end Go.Proofs.YtmddcohelcciaacDoor.PFnExactLex
