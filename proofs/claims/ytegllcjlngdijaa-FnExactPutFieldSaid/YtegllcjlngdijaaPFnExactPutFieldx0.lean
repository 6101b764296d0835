-- XPRINTED: written by a program of this session (wip/xprint), which turns the kit's print
import Derived.Test.YtegllcjlngdijaaProg
import Derived.Below
import Derived.Deep.Draws
import Derived.Deep.AppendLies
import Derived.Maps.AppendAt
import Derived.OwnWalk
import Derived.Laws.BytesArg
import Derived.Laws.MakeOwn
import Derived.Laws.OwnMore
import Derived.Deep.OwnRows
import Derived.Tactics
import Derived.Lib.ConvBytes
import Derived.Laws.Slices
import Derived.WalkKit
import Derived.KernelRfl
import Derived.RowKit3
import Derived.Deep.LoopGhost
import Derived.Deep.QuietTactic
import Derived.BigQuiet
import Derived.WideLaws
import Derived.Deep.DeepCutAuto
import Derived.Deep.CutBlock
import Derived.Deep.RegionHeld3
import Derived.Laws.Rows
import Derived.Lib.AppendStr
import Derived.ArgAppend
import Derived.Laws.IdiomCopy
import Derived.OrdersHeld
import Derived.Laws.BitsLemmas
import Derived.RowKit
import Derived.Test.YtegllcjlngdijaaXConv
import Derived.Test.YtegllcjlngdijaaXRow
import Derived.Test.YtegllcjlngdijaaXS
import Derived.Test.YtegllcjlngdijaaXLaid
import Derived.Test.YtegllcjlngdijaaShelfJ
import Derived.Test.YtegllcjlngdijaaShelfC
import Derived.Test.YtegllcjlngdijaaWWords
import Derived.Test.YtegllcjlngdijaaWLast
import Derived.Test.YtegllcjlngdijaaWTab
import Derived.Test.YtegllcjlngdijaaWFour
import Derived.Test.YtegllcjlngdijaaWQPut
import Derived.Test.YtegllcjlngdijaaWApart
import Derived.Test.YtegllcjlngdijaaWArr
import Derived.Test.YtegllcjlngdijaaWZeros
import Derived.Test.YtegllcjlngdijaaWFoot
import Derived.Test.YtegllcjlngdijaaWKept
import Derived.Test.YtegllcjlngdijaaWShare
import Derived.Test.YtegllcjlngdijaaWN
import Derived.Test.YtegllcjlngdijaaWFootNe
import Derived.Test.YtegllcjlngdijaaWAt
import Derived.Test.YtegllcjlngdijaaWEqStruct
import Derived.Test.YtegllcjlngdijaaWRepsOne
import Derived.Test.YtegllcjlngdijaaWInv
import Derived.Test.YtegllcjlngdijaaWInvWords
import Derived.Test.YtegllcjlngdijaaWGuard
import Derived.Test.YtegllcjlngdijaaWNEv
import Derived.Test.YtegllcjlngdijaaWMore
namespace Go.Proofs.Ytegllcjlngdijaa.PFnExactPutField
open Go.RowKit Go.Proofs.YtegllcjlngdijaaW.PrintWords Go.Proofs.YtegllcjlngdijaaW.PrintLast Go.Proofs.YtegllcjlngdijaaW.PrintMore
attribute [local go_sem] max2_int min2_int max_two min_two max_three min_three max_four min_four   -- for this text's walks alone
set_option linter.unusedVariables false
set_option linter.unusedSimpArgs false



def errW : Option Int → Value
  | none => .nilIface
  | some c => .iface 0 (.int .i64 c)
theorem errW_none : errW none = .nilIface := rfl
theorem errW_some (c : Int) : errW (some c) = .iface 0 (.int .i64 c) := rfl

theorem info5 : (Try.prog.info? 5).map (fun i => (i.zero, i.size, i.bytes)) = some (some (.int .u8 0), 1, 1) := by kernel_rfl
theorem info9 : (Try.prog.info? 9).map (fun i => (i.zero, i.size, i.bytes)) = some (some (.string ⟨#[]⟩), 1, 16) := by kernel_rfl
-- the values' own types

end Go.Proofs.Ytegllcjlngdijaa.PFnExactPutField
