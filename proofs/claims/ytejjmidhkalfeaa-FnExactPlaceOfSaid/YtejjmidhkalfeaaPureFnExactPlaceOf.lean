/- For every text s and every int64 at, the program's PlaceOf and the reference's PlaceOf answer alike. No condition beyond the size that any text has. -/
import Derived.Test.YtejjmidhkalfeaaPFnExactPlaceOfx1
import Derived.Test.YtejjmidhkalfeaaXLem
import Derived.Test.YtejjmidhkalfeaaLFnExactPlaceOfPlaceOf
namespace Go.Proofs.Ytejjmidhkalfeaa.Pure
set_option linter.unusedVariables false
set_option linter.unusedSimpArgs false
open Go.RowKit Go.Proofs.Ytejjmidhkalfeaa.PFnExactPlaceOf Go.Proofs.YtejjmidhkalfeaaW.PrintWords Go.Proofs.YtejjmidhkalfeaaW.PrintLast Go.Proofs.YtejjmidhkalfeaaW.PrintMore Go.Proofs.Ytejjmidhkalfeaa.XL

theorem FnExactPlaceOf : laws_FnExactPlaceOf.Pure := by
  intro s a hs _
  obtain ⟨r, h1, h2⟩ := place_same hs a
  have key : Ev (fun k => laws_FnExactPlaceOf.f k s a) true := by
    by_cases hb : (s.size : Int) > 1048576
    · exact Ev.congr (f := fun _ => some true) (fun k => by unfold laws_FnExactPlaceOf.f; rw [if_pos hb]) (Ev.now _)
    · refine ev_use1 h1 (fun k g1 => ?_)
      unfold laws_FnExactPlaceOf.f
      rw [if_neg hb, g1, Option.bind_some, h2, Option.bind_some]
      simp
  exact key.rounds

end Go.Proofs.Ytejjmidhkalfeaa.Pure
