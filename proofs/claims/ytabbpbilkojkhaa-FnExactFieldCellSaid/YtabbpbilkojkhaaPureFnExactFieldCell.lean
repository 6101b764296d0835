/- For every text s, the program's FieldCell and the reference's FieldCell answer alike. No condition beyond the size that any string has. -/
import Derived.Test.YtabbpbilkojkhaaPFnExactFieldCellx5
import Derived.Test.YtabbpbilkojkhaaXLem
import Derived.Test.YtabbpbilkojkhaaLFnExactFieldCellReadDec
import Derived.Test.YtabbpbilkojkhaaLFnExactFieldCellLooksNum
import Derived.Test.YtabbpbilkojkhaaLFnExactFieldCellFieldCell
namespace Go.Proofs.Ytabbpbilkojkhaa.Pure
set_option linter.unusedVariables false
set_option linter.unusedSimpArgs false
open Go.RowKit Go.Proofs.Ytabbpbilkojkhaa.PFnExactFieldCell Go.Proofs.YtabbpbilkojkhaaW.PrintWords Go.Proofs.YtabbpbilkojkhaaW.PrintLast Go.Proofs.YtabbpbilkojkhaaW.PrintMore Go.Proofs.Ytabbpbilkojkhaa.XL

theorem FnExactFieldCell : laws_FnExactFieldCell.Pure := by
  intro s hs
  have key : Ev (fun k => laws_FnExactFieldCell.f k s) true := by
    by_cases hb : (s.size : Int) > 1048576
    · exact Ev.congr (f := fun _ => some true) (fun k => by unfold laws_FnExactFieldCell.f; rw [if_pos hb]) (Ev.now _)
    · refine ev_use0 (spec_field s hs) (impl_field s hs) (fun k g1 g2 => ?_)
      unfold laws_FnExactFieldCell.f
      rw [if_neg hb, g1, Option.bind_some, g2, Option.bind_some, eqCell_refl]
      simp
  exact key.rounds

end Go.Proofs.Ytabbpbilkojkhaa.Pure
