-- XPRINTED: written by a program of this session (wip/xprint), which turns the kit's print
import Derived.Test.YtabbpbilkojkhaaProg
import Derived.Below
import Derived.Deep.Draws
import Derived.Deep.AppendLies
import Derived.Maps.AppendAt
import Derived.OwnWalk
import Derived.Laws.BytesArg
import Derived.Laws.MakeOwn
import Derived.Laws.OwnMore
import Derived.Deep.OwnRows
import Derived.Tactics
import Derived.Lib.ConvBytes
import Derived.Laws.Slices
import Derived.WalkKit
import Derived.KernelRfl
import Derived.RowKit3
import Derived.Deep.LoopGhost
import Derived.Deep.QuietTactic
import Derived.BigQuiet
import Derived.WideLaws
import Derived.Deep.DeepCutAuto
import Derived.Deep.CutBlock
import Derived.Deep.RegionHeld3
import Derived.Laws.Rows
import Derived.Lib.AppendStr
import Derived.ArgAppend
import Derived.Laws.IdiomCopy
import Derived.OrdersHeld
import Derived.Laws.BitsLemmas
import Derived.RowKit
import Derived.Test.YtabbpbilkojkhaaXConv
import Derived.Test.YtabbpbilkojkhaaXS
import Derived.Test.YtabbpbilkojkhaaShelfJ
import Derived.Test.YtabbpbilkojkhaaWWords
import Derived.Test.YtabbpbilkojkhaaWLast
import Derived.Test.YtabbpbilkojkhaaWTab
import Derived.Test.YtabbpbilkojkhaaWFour
import Derived.Test.YtabbpbilkojkhaaWQPut
import Derived.Test.YtabbpbilkojkhaaWApart
import Derived.Test.YtabbpbilkojkhaaWArr
import Derived.Test.YtabbpbilkojkhaaWZeros
import Derived.Test.YtabbpbilkojkhaaWFoot
import Derived.Test.YtabbpbilkojkhaaWKept
import Derived.Test.YtabbpbilkojkhaaWShare
import Derived.Test.YtabbpbilkojkhaaWN
import Derived.Test.YtabbpbilkojkhaaWFootNe
import Derived.Test.YtabbpbilkojkhaaWAt
import Derived.Test.YtabbpbilkojkhaaWEqStruct
import Derived.Test.YtabbpbilkojkhaaWRepsOne
import Derived.Test.YtabbpbilkojkhaaWInv
import Derived.Test.YtabbpbilkojkhaaWInvWords
import Derived.Test.YtabbpbilkojkhaaWGuard
import Derived.Test.YtabbpbilkojkhaaWNEv
import Derived.Test.YtabbpbilkojkhaaWMore
namespace Go.Proofs.Ytabbpbilkojkhaa.PFnExactJoinFields
open Go.RowKit Go.Proofs.YtabbpbilkojkhaaW.PrintWords Go.Proofs.YtabbpbilkojkhaaW.PrintLast Go.Proofs.YtabbpbilkojkhaaW.PrintMore
attribute [local go_sem] max2_int min2_int max_two min_two max_three min_three max_four min_four   -- for this text's walks alone
set_option linter.unusedVariables false
set_option linter.unusedSimpArgs false



def errW : Option Int → Value
  | none => .nilIface
  | some c => .iface 0 (.int .i64 c)
theorem errW_none : errW none = .nilIface := rfl
theorem errW_some (c : Int) : errW (some c) = .iface 0 (.int .i64 c) := rfl

theorem info9 : (Try.prog.info? 9).map (fun i => (i.zero, i.size, i.bytes)) = some (some (.string ⟨#[]⟩), 1, 16) := by kernel_rfl
-- the values' own types

end Go.Proofs.Ytabbpbilkojkhaa.PFnExactJoinFields
