-- XPRINTED: written by a program of this session (wip/xprint), which turns the kit's print
import Derived.Test.YtlemhidllcbadaaDoorProg
import Derived.Below
import Derived.Deep.Draws
import Derived.Deep.AppendLies
import Derived.Maps.AppendAt
import Derived.OwnWalk
import Derived.Laws.BytesArg
import Derived.Laws.MakeOwn
import Derived.Laws.OwnMore
import Derived.Deep.OwnRows
import Derived.Tactics
import Derived.Lib.ConvBytes
import Derived.Laws.Slices
import Derived.WalkKit
import Derived.KernelRfl
import Derived.RowKit3
import Derived.Deep.LoopGhost
import Derived.Deep.QuietTactic
import Derived.BigQuiet
import Derived.WideLaws
import Derived.Deep.DeepCutAuto
import Derived.Deep.CutBlock
import Derived.Deep.RegionHeld3
import Derived.Laws.Rows
import Derived.Lib.AppendStr
import Derived.ArgAppend
import Derived.Laws.IdiomCopy
import Derived.OrdersHeld
import Derived.Laws.BitsLemmas
import Derived.RowKit
import Derived.Test.YtlemhidllcbadaaDoorXConv
import Derived.Test.YtlemhidllcbadaaDoorXS
import Derived.Test.YtlemhidllcbadaaDoorXLaid
import Derived.Test.YtlemhidllcbadaaDoorShelfT
import Derived.Test.YtlemhidllcbadaaDoorWWords
import Derived.Test.YtlemhidllcbadaaDoorWLast
import Derived.Test.YtlemhidllcbadaaDoorWTab
import Derived.Test.YtlemhidllcbadaaDoorWFour
import Derived.Test.YtlemhidllcbadaaDoorWQPut
import Derived.Test.YtlemhidllcbadaaDoorWApart
import Derived.Test.YtlemhidllcbadaaDoorWArr
import Derived.Test.YtlemhidllcbadaaDoorWZeros
import Derived.Test.YtlemhidllcbadaaDoorWFoot
import Derived.Test.YtlemhidllcbadaaDoorWKept
import Derived.Test.YtlemhidllcbadaaDoorWShare
import Derived.Test.YtlemhidllcbadaaDoorWN
import Derived.Test.YtlemhidllcbadaaDoorWFootNe
import Derived.Test.YtlemhidllcbadaaDoorWAt
import Derived.Test.YtlemhidllcbadaaDoorWEqStruct
import Derived.Test.YtlemhidllcbadaaDoorWRepsOne
import Derived.Test.YtlemhidllcbadaaDoorWInv
import Derived.Test.YtlemhidllcbadaaDoorWInvWords
import Derived.Test.YtlemhidllcbadaaDoorWGuard
import Derived.Test.YtlemhidllcbadaaDoorWNEv
import Derived.Test.YtlemhidllcbadaaDoorWMore
namespace Go.Proofs.YtlemhidllcbadaaDoor.PFnDecTexts
open Go.RowKit Go.Proofs.YtlemhidllcbadaaDoorW.PrintWords Go.Proofs.YtlemhidllcbadaaDoorW.PrintLast Go.Proofs.YtlemhidllcbadaaDoorW.PrintMore
attribute [local go_sem] max2_int min2_int max_two min_two max_three min_three max_four min_four   -- for this text's walks alone
set_option linter.unusedVariables false
set_option linter.unusedSimpArgs false



def errW : Option Int → Value
  | none => .nilIface
  | some c => .iface 0 (.int .i64 c)
theorem errW_none : errW none = .nilIface := rfl
theorem errW_some (c : Int) : errW (some c) = .iface 0 (.int .i64 c) := rfl

theorem info3 : (Tryd.prog.info? 3).map (fun i => (i.zero, i.size, i.bytes)) = some (some (.int .i64 0), 1, 8) := by kernel_rfl
theorem info5 : (Tryd.prog.info? 5).map (fun i => (i.zero, i.size, i.bytes)) = some (some (.int .u8 0), 1, 1) := by kernel_rfl
-- the values' own types

end Go.Proofs.YtlemhidllcbadaaDoor.PFnDecTexts
