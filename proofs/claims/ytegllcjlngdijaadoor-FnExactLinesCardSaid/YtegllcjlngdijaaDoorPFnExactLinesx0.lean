-- XPRINTED: written by a program of this session (wip/xprint), which turns the kit's print
import Derived.Test.YtegllcjlngdijaaDoorProg
import Derived.Below
import Derived.Deep.Draws
import Derived.Deep.AppendLies
import Derived.Maps.AppendAt
import Derived.OwnWalk
import Derived.Laws.BytesArg
import Derived.Laws.MakeOwn
import Derived.Laws.OwnMore
import Derived.Deep.OwnRows
import Derived.Tactics
import Derived.Lib.ConvBytes
import Derived.Laws.Slices
import Derived.WalkKit
import Derived.KernelRfl
import Derived.RowKit3
import Derived.Deep.LoopGhost
import Derived.Deep.QuietTactic
import Derived.BigQuiet
import Derived.WideLaws
import Derived.Deep.DeepCutAuto
import Derived.Deep.CutBlock
import Derived.Deep.RegionHeld3
import Derived.Laws.Rows
import Derived.Lib.AppendStr
import Derived.ArgAppend
import Derived.Laws.IdiomCopy
import Derived.OrdersHeld
import Derived.Laws.BitsLemmas
import Derived.RowKit
import Derived.Test.YtegllcjlngdijaaDoorXConv
import Derived.Test.YtegllcjlngdijaaDoorXS
import Derived.Test.YtegllcjlngdijaaDoorXLaidS
import Derived.Test.YtegllcjlngdijaaDoorShelfS
import Derived.Test.YtegllcjlngdijaaDoorWWords
import Derived.Test.YtegllcjlngdijaaDoorWLast
import Derived.Test.YtegllcjlngdijaaDoorWTab
import Derived.Test.YtegllcjlngdijaaDoorWFour
import Derived.Test.YtegllcjlngdijaaDoorWQPut
import Derived.Test.YtegllcjlngdijaaDoorWApart
import Derived.Test.YtegllcjlngdijaaDoorWArr
import Derived.Test.YtegllcjlngdijaaDoorWZeros
import Derived.Test.YtegllcjlngdijaaDoorWFoot
import Derived.Test.YtegllcjlngdijaaDoorWKept
import Derived.Test.YtegllcjlngdijaaDoorWShare
import Derived.Test.YtegllcjlngdijaaDoorWN
import Derived.Test.YtegllcjlngdijaaDoorWFootNe
import Derived.Test.YtegllcjlngdijaaDoorWAt
import Derived.Test.YtegllcjlngdijaaDoorWEqStruct
import Derived.Test.YtegllcjlngdijaaDoorWRepsOne
import Derived.Test.YtegllcjlngdijaaDoorWInv
import Derived.Test.YtegllcjlngdijaaDoorWInvWords
import Derived.Test.YtegllcjlngdijaaDoorWGuard
import Derived.Test.YtegllcjlngdijaaDoorWNEv
import Derived.Test.YtegllcjlngdijaaDoorWMore
namespace Go.Proofs.YtegllcjlngdijaaDoor.PFnExactLines
open Go.RowKit Go.Proofs.YtegllcjlngdijaaDoorW.PrintWords Go.Proofs.YtegllcjlngdijaaDoorW.PrintLast Go.Proofs.YtegllcjlngdijaaDoorW.PrintMore
attribute [local go_sem] max2_int min2_int max_two min_two max_three min_three max_four min_four   -- for this text's walks alone
set_option linter.unusedVariables false
set_option linter.unusedSimpArgs false



def errW : Option Int → Value
  | none => .nilIface
  | some c => .iface 0 (.int .i64 c)
theorem errW_none : errW none = .nilIface := rfl
theorem errW_some (c : Int) : errW (some c) = .iface 0 (.int .i64 c) := rfl

theorem info5 : (Tryd.prog.info? 5).map (fun i => (i.zero, i.size, i.bytes)) = some (some (.int .u8 0), 1, 1) := by kernel_rfl
theorem info9 : (Tryd.prog.info? 9).map (fun i => (i.zero, i.size, i.bytes)) = some (some (.string ⟨#[]⟩), 1, 16) := by kernel_rfl
-- the values' own types

end Go.Proofs.YtegllcjlngdijaaDoor.PFnExactLines
