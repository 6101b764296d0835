/- For every two texts of at most 2^20 bytes the program's IndexOf returns what the reference's returns (for longer ones the law returns true at once); no condition. -/
import Derived.Test.YtabbpbilkojkhaaPFnExactIndexOfx1
import Derived.Test.YtabbpbilkojkhaaXLem
import Derived.Test.YtabbpbilkojkhaaLFnExactIndexOfIndexOf
namespace Go.Proofs.Ytabbpbilkojkhaa.Pure
set_option linter.unusedVariables false
set_option linter.unusedSimpArgs false
open Go.RowKit Go.Proofs.Ytabbpbilkojkhaa.PFnExactIndexOf Go.Proofs.YtabbpbilkojkhaaW.PrintWords Go.Proofs.YtabbpbilkojkhaaW.PrintLast Go.Proofs.YtabbpbilkojkhaaW.PrintMore Go.Proofs.Ytabbpbilkojkhaa.XL

theorem FnExactIndexOf : laws_FnExactIndexOf.Pure := by
  intro s t hs ht
  by_cases hb : (s.size : Int) > 1048576
  · exact ⟨1, by unfold laws_FnExactIndexOf.f; rw [if_pos hb]⟩
  · by_cases hc : (t.size : Int) > 1048576
    · exact ⟨1, by unfold laws_FnExactIndexOf.f; rw [if_neg hb, if_pos hc]⟩
    · obtain ⟨r, h1, h2⟩ := index_same (s := s) (t := t) (by omega) (by omega)
      have key : Ev (fun k => laws_FnExactIndexOf.f k s t) true := by
        refine ev_use1 h1 (fun k g1 => ?_)
        unfold laws_FnExactIndexOf.f
        rw [if_neg hb, if_neg hc, g1, Option.bind_some, h2, Option.bind_some]
        simp
      exact key.rounds

end Go.Proofs.Ytabbpbilkojkhaa.Pure
