/- For every text s, the program's NameOk and the reference's NameOk answer alike. No condition beyond the size that any string has. -/
import Derived.Test.YtabbpbilkojkhaaPFnExactNameOkx2
import Derived.Test.YtabbpbilkojkhaaXLem
import Derived.Test.YtabbpbilkojkhaaLFnExactNameOkIsWord
import Derived.Test.YtabbpbilkojkhaaLFnExactNameOkNameOk
namespace Go.Proofs.Ytabbpbilkojkhaa.Pure
set_option linter.unusedVariables false
set_option linter.unusedSimpArgs false
open Go.RowKit Go.Proofs.Ytabbpbilkojkhaa.PFnExactNameOk Go.Proofs.YtabbpbilkojkhaaW.PrintWords Go.Proofs.YtabbpbilkojkhaaW.PrintLast Go.Proofs.YtabbpbilkojkhaaW.PrintMore Go.Proofs.Ytabbpbilkojkhaa.XL

theorem FnExactNameOk : laws_FnExactNameOk.Pure := by
  intro s hs
  obtain ⟨b, h1, h2⟩ := nameOk_same hs
  have key : Ev (fun k => laws_FnExactNameOk.f k s) true := by
    by_cases hb : (s.size : Int) > 1048576
    · exact Ev.congr (f := fun _ => some true) (fun k => by unfold laws_FnExactNameOk.f; rw [if_pos hb]) (Ev.now _)
    · refine ev_use0 h1 h2 (fun k g1 g2 => ?_)
      unfold laws_FnExactNameOk.f
      rw [if_neg hb, g1, Option.bind_some, g2, Option.bind_some]
      simp
  exact key.rounds

end Go.Proofs.Ytabbpbilkojkhaa.Pure
