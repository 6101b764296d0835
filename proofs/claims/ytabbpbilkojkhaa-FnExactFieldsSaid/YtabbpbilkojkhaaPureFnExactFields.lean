/- For every text the program's Fields returns what the reference's Fields returns, and rows that do not share memory; no condition. -/
import Derived.Test.YtabbpbilkojkhaaPFnExactFieldsx2
import Derived.Test.YtabbpbilkojkhaaXLem
import Derived.Test.YtabbpbilkojkhaaXBa
import Derived.Test.YtabbpbilkojkhaaLFnExactFieldsMarks
import Derived.Test.YtabbpbilkojkhaaLFnExactFieldsSkip
import Derived.Test.YtabbpbilkojkhaaLFnExactFieldsFields
namespace Go.Proofs.Ytabbpbilkojkhaa.Pure
set_option linter.unusedVariables false
set_option linter.unusedSimpArgs false
open Go.RowKit Go.Proofs.Ytabbpbilkojkhaa.PFnExactFields Go.Proofs.YtabbpbilkojkhaaW.PrintWords Go.Proofs.YtabbpbilkojkhaaW.PrintLast Go.Proofs.YtabbpbilkojkhaaW.PrintMore Go.Proofs.Ytabbpbilkojkhaa.XL

theorem FnExactFields : laws_FnExactFields.Pure := by
  intro s hs
  have key : Ev (fun k => laws_FnExactFields.f k s) true := by
    by_cases hb : (s.size : Int) > 1048576
    · exact Ev.congr (f := fun _ => some true) (fun k => by unfold laws_FnExactFields.f; rw [if_pos hb]) (Ev.now _)
    · have hl := fieldsR_length s
      obtain ⟨L', m1, m2⟩ := marks_ok (fieldsR s) (by omega)
      obtain ⟨K1, g1⟩ := spec_fields s
      obtain ⟨K2, g2⟩ := eq_row (fieldsR s) (by omega)
      obtain ⟨K3, g3⟩ := m1
      obtain ⟨K4, g4⟩ := m2
      refine ⟨K1 + K2 + K3 + K4, fun k hk => ?_⟩
      have e1 : spec_Fields.f k s = _ := g1 k (by omega)
      have e2 : laws_eqStringS.f k (fieldsR s) (fieldsR s) = _ := g2 k (by omega)
      have e3 : laws_markStringS.f k (fieldsR s) 1 = _ := g3 k (by omega)
      have e4 : laws_heldStringS.f k L' 1 = _ := g4 k (by omega)
      show laws_FnExactFields.f k s = _
      unfold laws_FnExactFields.f
      rw [if_neg hb, e1, Option.bind_some, impl_fields, Option.bind_some, e2, Option.bind_some, if_pos (rfl : true = true), e3, Option.bind_some, e4, Option.bind_some, if_neg (by omega), if_pos rfl, Option.bind_some, e2, Option.bind_some, if_pos (rfl : true = true), Option.bind_some, if_neg (by omega), if_pos rfl]
  exact key.rounds

end Go.Proofs.Ytabbpbilkojkhaa.Pure
