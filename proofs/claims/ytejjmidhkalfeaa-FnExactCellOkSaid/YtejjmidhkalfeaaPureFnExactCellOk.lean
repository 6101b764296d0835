/- For every cell (two int64 and a text), the program's CellOk and the reference's CellOk answer alike. No condition beyond the size that any text has. -/
import Derived.Test.YtejjmidhkalfeaaPFnExactCellOkx5
import Derived.Test.YtejjmidhkalfeaaXLem
import Derived.Test.YtejjmidhkalfeaaLFnExactCellOkReadDec
import Derived.Test.YtejjmidhkalfeaaLFnExactCellOkLooksNum
import Derived.Test.YtejjmidhkalfeaaLFnExactCellOkCell
namespace Go.Proofs.Ytejjmidhkalfeaa.Pure
set_option linter.unusedVariables false
set_option linter.unusedSimpArgs false
open Go.RowKit Go.Proofs.Ytejjmidhkalfeaa.PFnExactCellOk Go.Proofs.YtejjmidhkalfeaaW.PrintWords Go.Proofs.YtejjmidhkalfeaaW.PrintLast Go.Proofs.YtejjmidhkalfeaaW.PrintMore Go.Proofs.Ytejjmidhkalfeaa.XL


theorem FnExactCellOk : laws_FnExactCellOk.Pure := by
  intro t b s _ _ hm
  obtain ⟨r, e, hr⟩ := sz_small t b s 1048576 hm (by omega) (by omega)
  have key : Ev (fun k => laws_FnExactCellOk.f k t b s) true := by
    by_cases hb : r < 0
    · exact Ev.congr (f := fun _ => some true) (fun k => by unfold laws_FnExactCellOk.f; rw [e, Option.bind_some, if_pos hb]) (Ev.now _)
    · have hs2 : s.size ≤ 140737488351232 := by have := (hr hb).1; omega
      refine ev_use0 (spec_cell t b s hs2) (impl_cell t b s hs2) (fun k g1 g2 => ?_)
      unfold laws_FnExactCellOk.f laws_toCell.f
      rw [e, Option.bind_some, if_neg hb]
      simp only [Option.bind_some]
      rw [g1, g2]
      simp
  exact key.rounds

end Go.Proofs.Ytejjmidhkalfeaa.Pure
