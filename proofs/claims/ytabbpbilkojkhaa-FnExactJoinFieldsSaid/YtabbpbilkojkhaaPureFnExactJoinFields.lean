/- For every row of texts the program's JoinFields returns what the reference's JoinFields returns, and the row stays as it was (where the row's length and its texts' sizes come to more than 2^20 the law returns true at once); no condition. -/
import Derived.Test.YtabbpbilkojkhaaPFnExactJoinFieldsx2
import Derived.Test.YtabbpbilkojkhaaXLem
import Derived.Test.YtabbpbilkojkhaaXBa
import Derived.Test.YtabbpbilkojkhaaLFnExactJoinFieldsStrs
import Derived.Test.YtabbpbilkojkhaaLFnExactJoinFieldsEqRow
import Derived.Test.YtabbpbilkojkhaaLFnExactJoinFieldsJoin
namespace Go.Proofs.Ytabbpbilkojkhaa.Pure
set_option linter.unusedVariables false
set_option linter.unusedSimpArgs false
open Go.RowKit Go.Proofs.Ytabbpbilkojkhaa.PFnExactJoinFields Go.Proofs.YtabbpbilkojkhaaW.PrintWords Go.Proofs.YtabbpbilkojkhaaW.PrintLast Go.Proofs.YtabbpbilkojkhaaW.PrintMore Go.Proofs.Ytabbpbilkojkhaa.XL

theorem FnExactJoinFields : laws_FnExactJoinFields.Pure := by
  intro L h1 h2 h3
  obtain ⟨r, e, hr, _⟩ := sz_strs L (by omega) h3 1048576 (by omega) (by omega)
  have key : Ev (fun k => laws_FnExactJoinFields.f k L) true := by
    by_cases hb : r < 0
    · refine ev_use1 e (fun k g1 => ?_)
      unfold laws_FnExactJoinFields.f
      rw [g1, Option.bind_some, if_pos hb]
    · have hr' := hr hb
      obtain ⟨v, j1, j2⟩ := join_same (L := L) (by omega)
      obtain ⟨K1, g1⟩ := e
      obtain ⟨K2, g2⟩ := to_strs L (by omega)
      obtain ⟨K3, g3⟩ := j1
      obtain ⟨K4, g4⟩ := eq_row L (by omega)
      refine ⟨K1 + K2 + K3 + K4, fun k hk => ?_⟩
      have e1 : laws_szStringS.f k L 1048576 = _ := g1 k (by omega)
      have e2 : laws_toStringS.f k L = _ := g2 k (by omega)
      have e3 : spec_JoinFields.f k L = _ := g3 k (by omega)
      have e4 : laws_eqStringS.f k L L = _ := g4 k (by omega)
      show laws_FnExactJoinFields.f k L = _
      unfold laws_FnExactJoinFields.f
      rw [e1, Option.bind_some, if_neg hb, e2, Option.bind_some, e3, Option.bind_some, Option.bind_some, j2, Option.bind_some, if_pos rfl, Option.bind_some, e4, Option.bind_some, if_pos (rfl : true = true)]
  exact key.rounds

end Go.Proofs.Ytabbpbilkojkhaa.Pure
