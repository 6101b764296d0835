-- XPRINTED: written by a program of this session (wip/xprint), which turns the kit's print
import Derived.Test.YtbaiaflphdkecaaProg
import Derived.Below
import Derived.Deep.Draws
import Derived.Deep.AppendLies
import Derived.Maps.AppendAt
import Derived.OwnWalk
import Derived.Laws.BytesArg
import Derived.Laws.MakeOwn
import Derived.Laws.OwnMore
import Derived.Deep.OwnRows
import Derived.Tactics
import Derived.Lib.ConvBytes
import Derived.Laws.Slices
import Derived.WalkKit
import Derived.KernelRfl
import Derived.RowKit3
import Derived.Deep.LoopGhost
import Derived.Deep.QuietTactic
import Derived.BigQuiet
import Derived.WideLaws
import Derived.Deep.DeepCutAuto
import Derived.Deep.CutBlock
import Derived.Deep.RegionHeld3
import Derived.Laws.Rows
import Derived.Lib.AppendStr
import Derived.ArgAppend
import Derived.Laws.IdiomCopy
import Derived.OrdersHeld
import Derived.Laws.BitsLemmas
import Derived.RowKit
import Derived.Test.YtbaiaflphdkecaaXConv
import Derived.Test.YtbaiaflphdkecaaWWords
import Derived.Test.YtbaiaflphdkecaaWLast
import Derived.Test.YtbaiaflphdkecaaWTab
import Derived.Test.YtbaiaflphdkecaaWFour
import Derived.Test.YtbaiaflphdkecaaWQPut
import Derived.Test.YtbaiaflphdkecaaWApart
import Derived.Test.YtbaiaflphdkecaaWArr
import Derived.Test.YtbaiaflphdkecaaWZeros
import Derived.Test.YtbaiaflphdkecaaWFoot
import Derived.Test.YtbaiaflphdkecaaWKept
import Derived.Test.YtbaiaflphdkecaaWShare
import Derived.Test.YtbaiaflphdkecaaWN
import Derived.Test.YtbaiaflphdkecaaWFootNe
import Derived.Test.YtbaiaflphdkecaaWAt
import Derived.Test.YtbaiaflphdkecaaWEqStruct
import Derived.Test.YtbaiaflphdkecaaWRepsOne
import Derived.Test.YtbaiaflphdkecaaWInv
import Derived.Test.YtbaiaflphdkecaaWInvWords
import Derived.Test.YtbaiaflphdkecaaWGuard
import Derived.Test.YtbaiaflphdkecaaWNEv
import Derived.Test.YtbaiaflphdkecaaWMore
namespace Go.Proofs.Ytbaiaflphdkecaa.PFnExactConstants
open Go.RowKit Go.Proofs.YtbaiaflphdkecaaW.PrintWords Go.Proofs.YtbaiaflphdkecaaW.PrintLast Go.Proofs.YtbaiaflphdkecaaW.PrintMore
attribute [local go_sem] max2_int min2_int max_two min_two max_three min_three max_four min_four   -- for this text's walks alone
set_option linter.unusedVariables false
set_option linter.unusedSimpArgs false



def errW : Option Int → Value
  | none => .nilIface
  | some c => .iface 0 (.int .i64 c)
theorem errW_none : errW none = .nilIface := rfl
theorem errW_some (c : Int) : errW (some c) = .iface 0 (.int .i64 c) := rfl

-- the values' own types

end Go.Proofs.Ytbaiaflphdkecaa.PFnExactConstants
