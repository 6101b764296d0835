-- XPRINTED: written by a program of this session (wip/xprint), which turns the kit's print
import Derived.Test.YtmddcohelcciaabProg
import Derived.Below
import Derived.Deep.Draws
import Derived.Deep.AppendLies
import Derived.Maps.AppendAt
import Derived.OwnWalk
import Derived.Laws.BytesArg
import Derived.Laws.MakeOwn
import Derived.Laws.OwnMore
import Derived.Deep.OwnRows
import Derived.Tactics
import Derived.Lib.ConvBytes
import Derived.Laws.Slices
import Derived.WalkKit
import Derived.KernelRfl
import Derived.RowKit3
import Derived.Deep.LoopGhost
import Derived.Deep.QuietTactic
import Derived.BigQuiet
import Derived.WideLaws
import Derived.Deep.DeepCutAuto
import Derived.Deep.CutBlock
import Derived.Deep.RegionHeld3
import Derived.Laws.Rows
import Derived.Lib.AppendStr
import Derived.ArgAppend
import Derived.Laws.IdiomCopy
import Derived.OrdersHeld
import Derived.Laws.BitsLemmas
import Derived.RowKit
import Derived.Test.YtmddcohelcciaabXConv
import Derived.Test.YtmddcohelcciaabXS
import Derived.Test.YtmddcohelcciaabXEmp
import Derived.Test.YtmddcohelcciaabXConvW
import Derived.Test.YtmddcohelcciaabWWords
import Derived.Test.YtmddcohelcciaabWLast
import Derived.Test.YtmddcohelcciaabWTab
import Derived.Test.YtmddcohelcciaabWFour
import Derived.Test.YtmddcohelcciaabWQPut
import Derived.Test.YtmddcohelcciaabWApart
import Derived.Test.YtmddcohelcciaabWArr
import Derived.Test.YtmddcohelcciaabWZeros
import Derived.Test.YtmddcohelcciaabWFoot
import Derived.Test.YtmddcohelcciaabWKept
import Derived.Test.YtmddcohelcciaabWShare
import Derived.Test.YtmddcohelcciaabWN
import Derived.Test.YtmddcohelcciaabWFootNe
import Derived.Test.YtmddcohelcciaabWAt
import Derived.Test.YtmddcohelcciaabWEqStruct
import Derived.Test.YtmddcohelcciaabWRepsOne
import Derived.Test.YtmddcohelcciaabWInv
import Derived.Test.YtmddcohelcciaabWInvWords
import Derived.Test.YtmddcohelcciaabWGuard
import Derived.Test.YtmddcohelcciaabWNEv
import Derived.Test.YtmddcohelcciaabWMore
namespace Go.Proofs.Ytmddcohelcciaab.PFnExactUpper
open Go.RowKit Go.Proofs.YtmddcohelcciaabW.PrintWords Go.Proofs.YtmddcohelcciaabW.PrintLast Go.Proofs.YtmddcohelcciaabW.PrintMore
attribute [local go_sem] max2_int min2_int max_two min_two max_three min_three max_four min_four   -- for this text's walks alone
set_option linter.unusedVariables false
set_option linter.unusedSimpArgs false



def errW : Option Int → Value
  | none => .nilIface
  | some c => .iface 0 (.int .i64 c)
theorem errW_none : errW none = .nilIface := rfl
theorem errW_some (c : Int) : errW (some c) = .iface 0 (.int .i64 c) := rfl

theorem info5 : (Try.prog.info? 5).map (fun i => (i.zero, i.size, i.bytes)) = some (some (.int .u8 0), 1, 1) := by kernel_rfl
-- the values' own types

end Go.Proofs.Ytmddcohelcciaab.PFnExactUpper
