/- For every number the program's DecText returns what the reference's DecText returns; no condition beyond the tied tables. -/
import Derived.Test.YtlemhidllcbadaaDoorPFnExactDecTextx1
import Derived.Test.YtlemhidllcbadaaDoorXLem
import Derived.Test.YtlemhidllcbadaaDoorXBa
import Derived.Test.YtlemhidllcbadaaDoorLFnExactDecTextDecText
namespace Go.Proofs.YtlemhidllcbadaaDoor.Pure
set_option linter.unusedVariables false
set_option linter.unusedSimpArgs false
open Go.RowKit Go.Proofs.YtlemhidllcbadaaDoor.PFnExactDecText Go.Proofs.YtlemhidllcbadaaDoorW.PrintWords Go.Proofs.YtlemhidllcbadaaDoorW.PrintLast Go.Proofs.YtlemhidllcbadaaDoorW.PrintMore Go.Proofs.YtlemhidllcbadaaDoor.XL

theorem FnExactDecText : laws_FnExactDecText.Pure := by
  intro a _
  obtain ⟨r, h1, h2⟩ := text_same a
  have key : Ev (fun k => laws_FnExactDecText.f k a) true := by
    refine ev_use0 h1 h2 (fun k g1 g2 => ?_)
    unfold laws_FnExactDecText.f
    rw [g1, Option.bind_some, g2, Option.bind_some, if_pos rfl]
  exact key.rounds

end Go.Proofs.YtlemhidllcbadaaDoor.Pure
