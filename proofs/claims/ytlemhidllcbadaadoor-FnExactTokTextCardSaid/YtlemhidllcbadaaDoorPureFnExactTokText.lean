/- For every token the program's TokText returns what the reference's TokText returns (where its text has at most 2^20 bytes; for longer ones the law returns true at once); no condition beyond the tied tables. -/
import Derived.Test.YtlemhidllcbadaaDoorPFnExactTokTextx2
import Derived.Test.YtlemhidllcbadaaDoorXLem
import Derived.Test.YtlemhidllcbadaaDoorXBa
import Derived.Test.YtlemhidllcbadaaDoorLFnExactTokTextDecText
import Derived.Test.YtlemhidllcbadaaDoorLFnExactTokTextTokText
namespace Go.Proofs.YtlemhidllcbadaaDoor.Pure
set_option linter.unusedVariables false
set_option linter.unusedSimpArgs false
open Go.RowKit Go.Proofs.YtlemhidllcbadaaDoor.PFnExactTokText Go.Proofs.YtlemhidllcbadaaDoorW.PrintWords Go.Proofs.YtlemhidllcbadaaDoorW.PrintLast Go.Proofs.YtlemhidllcbadaaDoorW.PrintMore Go.Proofs.YtlemhidllcbadaaDoor.XL

theorem FnExactTokText : laws_FnExactTokText.Pure := by
  intro t s n p _ hm _ _
  unfold maxLen at hm
  have key : Ev (fun k => laws_FnExactTokText.f k t s n p) true := by
    by_cases hb : (1048576 : Int) - (s.size : Int) < 0
    · refine Ev.congr (f := fun _ => some true) (fun k => ?_) (Ev.now _)
      unfold laws_FnExactTokText.f laws_szTok.f
      rw [wrap_id (by omega) (by omega), if_pos hb, Option.bind_some, if_pos (by omega)]
    · obtain ⟨r, g1, g2⟩ := tok_same (s := s) (by omega) t n p
      refine ev_use0 g1 g2 (fun k e1 e2 => ?_)
      unfold laws_FnExactTokText.f laws_szTok.f laws_toTok.f
      rw [wrap_id (by omega) (by omega), if_neg hb, Option.bind_some, if_neg hb]
      simp only [Option.bind_some]
      rw [e1, Option.bind_some, e2, Option.bind_some, if_pos rfl]
  exact key.rounds

end Go.Proofs.YtlemhidllcbadaaDoor.Pure
