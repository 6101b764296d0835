/- The law's own draw of a decimal, and its own sums that stay alive. -/
import Derived.Test.YtlemhidllcbadaaDoorReadText
import Derived.Test.YtlemhidllcbadaaDoorPFnDecTextsx
import Derived.Test.YtlemhidllcbadaaDoorLFnDecTextsCur
import Derived.Test.YtlemhidllcbadaaDoorLFnDecTextsPick
namespace Go.Proofs.YtlemhidllcbadaaDoor.PFnDecTexts
set_option linter.unusedVariables false
set_option linter.unusedSimpArgs false
open Go.RowKit Go.Proofs.YtlemhidllcbadaaDoorW.PrintWords Go.Proofs.YtlemhidllcbadaaDoorW.PrintLast Go.Proofs.YtlemhidllcbadaaDoorW.PrintMore Go.Proofs.YtlemhidllcbadaaDoor.XL
theorem draw_num {b : List Int} (hb : b.length ≤ 140737488351232) : ∃ a, Ev (fun k => spec_DrawDecText.f k b) a := by
  obtain ⟨h, K1, e1⟩ := new_ok b hb
  obtain ⟨a, i1, g1, e2, _⟩ := num_ok hb 0 h (by omega)
  refine ⟨a, K1, fun k hk => ?_⟩
  show spec_DrawDecText.f k b = _
  unfold spec_DrawDecText.f
  rw [(show spec_l1New.f k b = _ from e1 k (by omega))]
  simp only [Option.bind_some]
  rw [e2]
  rfl
end Go.Proofs.YtlemhidllcbadaaDoor.PFnDecTexts
