-- XPRINTED: written by a program of this session (wip/xprint), which turns the kit's print
import Derived.Test.YtejjmidhkalfeaaProg
import Derived.Below
import Derived.Deep.Draws
import Derived.Deep.AppendLies
import Derived.Maps.AppendAt
import Derived.OwnWalk
import Derived.Laws.BytesArg
import Derived.Laws.MakeOwn
import Derived.Laws.OwnMore
import Derived.Deep.OwnRows
import Derived.Tactics
import Derived.Lib.ConvBytes
import Derived.Laws.Slices
import Derived.WalkKit
import Derived.KernelRfl
import Derived.RowKit3
import Derived.Deep.LoopGhost
import Derived.Deep.QuietTactic
import Derived.BigQuiet
import Derived.WideLaws
import Derived.Deep.DeepCutAuto
import Derived.Deep.CutBlock
import Derived.Deep.RegionHeld3
import Derived.Laws.Rows
import Derived.Lib.AppendStr
import Derived.ArgAppend
import Derived.Laws.IdiomCopy
import Derived.OrdersHeld
import Derived.Laws.BitsLemmas
import Derived.RowKit
import Derived.Test.YtejjmidhkalfeaaXConv
import Derived.Test.YtejjmidhkalfeaaXS
import Derived.Test.YtejjmidhkalfeaaShelfP
import Derived.Test.YtejjmidhkalfeaaWWords
import Derived.Test.YtejjmidhkalfeaaWLast
import Derived.Test.YtejjmidhkalfeaaWTab
import Derived.Test.YtejjmidhkalfeaaWFour
import Derived.Test.YtejjmidhkalfeaaWQPut
import Derived.Test.YtejjmidhkalfeaaWApart
import Derived.Test.YtejjmidhkalfeaaWArr
import Derived.Test.YtejjmidhkalfeaaWZeros
import Derived.Test.YtejjmidhkalfeaaWFoot
import Derived.Test.YtejjmidhkalfeaaWKept
import Derived.Test.YtejjmidhkalfeaaWShare
import Derived.Test.YtejjmidhkalfeaaWN
import Derived.Test.YtejjmidhkalfeaaWFootNe
import Derived.Test.YtejjmidhkalfeaaWAt
import Derived.Test.YtejjmidhkalfeaaWEqStruct
import Derived.Test.YtejjmidhkalfeaaWRepsOne
import Derived.Test.YtejjmidhkalfeaaWInv
import Derived.Test.YtejjmidhkalfeaaWInvWords
import Derived.Test.YtejjmidhkalfeaaWGuard
import Derived.Test.YtejjmidhkalfeaaWNEv
import Derived.Test.YtejjmidhkalfeaaWMore
namespace Go.Proofs.Ytejjmidhkalfeaa.PFnExactPlaceOf
open Go.RowKit Go.Proofs.YtejjmidhkalfeaaW.PrintWords Go.Proofs.YtejjmidhkalfeaaW.PrintLast Go.Proofs.YtejjmidhkalfeaaW.PrintMore
attribute [local go_sem] max2_int min2_int max_two min_two max_three min_three max_four min_four   -- for this text's walks alone
set_option linter.unusedVariables false
set_option linter.unusedSimpArgs false



def errW : Option Int → Value
  | none => .nilIface
  | some c => .iface 0 (.int .i64 c)
theorem errW_none : errW none = .nilIface := rfl
theorem errW_some (c : Int) : errW (some c) = .iface 0 (.int .i64 c) := rfl

-- the values' own types

end Go.Proofs.Ytejjmidhkalfeaa.PFnExactPlaceOf
