/- For all texts, the program's SplitBy and the reference's answer alike, in memory of their own. -/
import Derived.Test.YtegllcjlngdijaaDoorPFnExactSplitByx3
import Derived.Test.YtegllcjlngdijaaDoorXLem
import Derived.Test.YtegllcjlngdijaaDoorXBa
import Derived.Test.YtegllcjlngdijaaDoorLFnExactSplitBySplitBy
import Derived.Test.YtegllcjlngdijaaDoorLFnExactSplitByMarks
namespace Go.Proofs.YtegllcjlngdijaaDoor.Pure
set_option linter.unusedVariables false
set_option linter.unusedSimpArgs false
open Go.RowKit Go.Proofs.YtegllcjlngdijaaDoor.PFnExactSplitBy Go.Proofs.YtegllcjlngdijaaDoorW.PrintWords Go.Proofs.YtegllcjlngdijaaDoorW.PrintLast Go.Proofs.YtegllcjlngdijaaDoorW.PrintMore Go.Proofs.YtegllcjlngdijaaDoor.XL

theorem FnExactSplitBy : laws_FnExactSplitBy.Pure := by
  intro s sep _ _
  have key : Ev (fun k => laws_FnExactSplitBy.f k s sep) true := by
    by_cases hb : (s.size : Int) > 1048576
    · exact Ev.congr (f := fun _ => some true) (fun k => by unfold laws_FnExactSplitBy.f; rw [if_pos hb]) (Ev.now _)
    · by_cases hc : (sep.size : Int) > 1048576
      · exact Ev.congr (f := fun _ => some true) (fun k => by unfold laws_FnExactSplitBy.f; rw [if_neg hb, if_pos hc]) (Ev.now _)
      · have hl := splitV_length s sep
        obtain ⟨L', ⟨K3, g3⟩, ⟨K4, g4⟩⟩ := marks_ok (splitV s sep) (by omega)
        obtain ⟨K1, g1⟩ := spec_split s sep (by omega)
        obtain ⟨K2, g2⟩ := eq_row (splitV s sep) (by omega)
        refine ⟨K1 + K2 + K3 + K4 + 1, fun k hk => ?_⟩
        have e0 : impl_SplitBy.f k s sep = some (splitV s sep) := by
          obtain ⟨j, rfl⟩ : ∃ m, k = m + 1 := ⟨k - 1, by omega⟩
          exact impl_split s sep (by omega) j
        have e1 : spec_SplitBy.f k s sep = _ := g1 k (by omega)
        have e2 : laws_eqStringS.f k (splitV s sep) (splitV s sep) = _ := g2 k (by omega)
        have e3 : laws_markStringS.f k (splitV s sep) 1 = _ := g3 k (by omega)
        have e4 : laws_heldStringS.f k L' 1 = _ := g4 k (by omega)
        show laws_FnExactSplitBy.f k s sep = _
        unfold laws_FnExactSplitBy.f
        rw [if_neg hb, if_neg hc, e1, Option.bind_some, e0, Option.bind_some, e2, Option.bind_some, if_pos (rfl : true = true), e3, Option.bind_some, e4, Option.bind_some, if_neg (by omega), if_pos rfl, Option.bind_some, e2, Option.bind_some, if_pos (rfl : true = true), Option.bind_some, if_neg (by omega), if_pos rfl]
  exact key.rounds

end Go.Proofs.YtegllcjlngdijaaDoor.Pure
