/- For every text s, the program's LooksNum and the reference's LooksNum answer alike. No condition beyond the size that any string has. -/
import Derived.Test.YtabbpbilkojkhaaPFnExactLooksNumx5
import Derived.Test.YtabbpbilkojkhaaXLem
import Derived.Test.YtabbpbilkojkhaaLFnExactLooksNumReadDec
import Derived.Test.YtabbpbilkojkhaaLFnExactLooksNumLooksNum
namespace Go.Proofs.Ytabbpbilkojkhaa.Pure
set_option linter.unusedVariables false
set_option linter.unusedSimpArgs false
open Go.RowKit Go.Proofs.Ytabbpbilkojkhaa.PFnExactLooksNum Go.Proofs.YtabbpbilkojkhaaW.PrintWords Go.Proofs.YtabbpbilkojkhaaW.PrintLast Go.Proofs.YtabbpbilkojkhaaW.PrintMore Go.Proofs.Ytabbpbilkojkhaa.XL

theorem FnExactLooksNum : laws_FnExactLooksNum.Pure := by
  intro s hs
  have key : Ev (fun k => laws_FnExactLooksNum.f k s) true := by
    by_cases hb : (s.size : Int) > 1048576
    · exact Ev.congr (f := fun _ => some true) (fun k => by unfold laws_FnExactLooksNum.f; rw [if_pos hb]) (Ev.now _)
    · refine ev_use0 (spec_looks s hs) (impl_looks s hs) (fun k g1 g2 => ?_)
      unfold laws_FnExactLooksNum.f
      rw [if_neg hb, g1, Option.bind_some, g2, Option.bind_some]
      simp
  exact key.rounds

end Go.Proofs.Ytabbpbilkojkhaa.Pure
