-- XPRINTED: written by a program of this session (wip/xprint), which turns the kit's print
import Derived.Test.YtlemhidllcbadaaProg
import Derived.Below
import Derived.Deep.Draws
import Derived.Deep.AppendLies
import Derived.Maps.AppendAt
import Derived.OwnWalk
import Derived.Laws.BytesArg
import Derived.Laws.MakeOwn
import Derived.Laws.OwnMore
import Derived.Deep.OwnRows
import Derived.Tactics
import Derived.Lib.ConvBytes
import Derived.Laws.Slices
import Derived.WalkKit
import Derived.KernelRfl
import Derived.RowKit3
import Derived.Deep.LoopGhost
import Derived.Deep.QuietTactic
import Derived.BigQuiet
import Derived.WideLaws
import Derived.Deep.DeepCutAuto
import Derived.Deep.CutBlock
import Derived.Deep.RegionHeld3
import Derived.Laws.Rows
import Derived.Lib.AppendStr
import Derived.ArgAppend
import Derived.Laws.IdiomCopy
import Derived.OrdersHeld
import Derived.Laws.BitsLemmas
import Derived.RowKit
import Derived.Test.YtlemhidllcbadaaXConv
import Derived.Test.YtlemhidllcbadaaWWords
import Derived.Test.YtlemhidllcbadaaWLast
import Derived.Test.YtlemhidllcbadaaWTab
import Derived.Test.YtlemhidllcbadaaWFour
import Derived.Test.YtlemhidllcbadaaWQPut
import Derived.Test.YtlemhidllcbadaaWApart
import Derived.Test.YtlemhidllcbadaaWArr
import Derived.Test.YtlemhidllcbadaaWZeros
import Derived.Test.YtlemhidllcbadaaWFoot
import Derived.Test.YtlemhidllcbadaaWKept
import Derived.Test.YtlemhidllcbadaaWShare
import Derived.Test.YtlemhidllcbadaaWN
import Derived.Test.YtlemhidllcbadaaWFootNe
import Derived.Test.YtlemhidllcbadaaWAt
import Derived.Test.YtlemhidllcbadaaWEqStruct
import Derived.Test.YtlemhidllcbadaaWRepsOne
import Derived.Test.YtlemhidllcbadaaWInv
import Derived.Test.YtlemhidllcbadaaWInvWords
import Derived.Test.YtlemhidllcbadaaWGuard
import Derived.Test.YtlemhidllcbadaaWNEv
import Derived.Test.YtlemhidllcbadaaWMore
namespace Go.Proofs.Ytlemhidllcbadaa.PFnExactArith
open Go.RowKit Go.Proofs.YtlemhidllcbadaaW.PrintWords Go.Proofs.YtlemhidllcbadaaW.PrintLast Go.Proofs.YtlemhidllcbadaaW.PrintMore
attribute [local go_sem] max2_int min2_int max_two min_two max_three min_three max_four min_four   -- for this text's walks alone
set_option linter.unusedVariables false
set_option linter.unusedSimpArgs false



def errW : Option Int → Value
  | none => .nilIface
  | some c => .iface 0 (.int .i64 c)
theorem errW_none : errW none = .nilIface := rfl
theorem errW_some (c : Int) : errW (some c) = .iface 0 (.int .i64 c) := rfl

theorem info5 : (Try.prog.info? 5).map (fun i => (i.zero, i.size, i.bytes)) = some (some (.int .u8 0), 1, 1) := by kernel_rfl
-- the values' own types

end Go.Proofs.Ytlemhidllcbadaa.PFnExactArith
