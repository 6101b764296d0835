/- For every two numbers the program's DecMul returns what the reference's DecMul returns; no condition. -/
import Derived.Test.YtabbpbilkojkhaaPFnExactDecMulx2
import Derived.Test.YtabbpbilkojkhaaXLem
import Derived.Test.YtabbpbilkojkhaaLFnExactDecMulDecMul
namespace Go.Proofs.Ytabbpbilkojkhaa.Pure
set_option linter.unusedVariables false
set_option linter.unusedSimpArgs false
open Go.RowKit Go.Proofs.Ytabbpbilkojkhaa.PFnExactDecMul Go.Proofs.YtabbpbilkojkhaaW.PrintWords Go.Proofs.YtabbpbilkojkhaaW.PrintLast Go.Proofs.YtabbpbilkojkhaaW.PrintMore Go.Proofs.Ytabbpbilkojkhaa.XL

theorem FnExactDecMul : laws_FnExactDecMul.Pure := by
  intro a b wa wb
  by_cases ha : -9000000000000 ≤ a ∧ a ≤ 9000000000000
  · by_cases hb : -9000000000000 ≤ b ∧ b ≤ 9000000000000
    · have key : Ev (fun k => laws_FnExactDecMul.f k a b) true := by
        refine ev_use0 (spec_mul ha hb) (impl_mul ha hb) (fun k g1 g2 => ?_)
        unfold laws_FnExactDecMul.f
        rw [g1, Option.bind_some, g2, Option.bind_some]
        simp
      exact key.rounds
    · refine ⟨2, ?_⟩
      have e1 : spec_DecOk.f b = some false := by
        unfold spec_DecOk.f
        by_cases h : b ≥ -9000000000000
        · rw [if_pos h, decide_eq_false (by omega)]
        · rw [if_neg h]
      have e2 : impl_DecOk.f b = some false := by
        unfold impl_DecOk.f impl_between.f
        by_cases h : b ≥ -9000000000000
        · rw [if_pos h, decide_eq_false (by omega)]; rfl
        · rw [if_neg h]; rfl
      have e3 : spec_DecOk.f a = some true := by unfold spec_DecOk.f; rw [if_pos (by omega), decide_eq_true (by omega)]
      have e4 : impl_DecOk.f a = some true := by unfold impl_DecOk.f impl_between.f; rw [if_pos (by omega), decide_eq_true (by omega)]; rfl
      unfold laws_FnExactDecMul.f spec_DecMul.f impl_DecMul.f impl_areDecs.f
      rw [e1, e2, e3, e4]
      simp [spec_DecMul.j0]
  · refine ⟨2, ?_⟩
    have e1 : spec_DecOk.f a = some false := by
      unfold spec_DecOk.f
      by_cases h : a ≥ -9000000000000
      · rw [if_pos h, decide_eq_false (by omega)]
      · rw [if_neg h]
    have e2 : impl_DecOk.f a = some false := by
      unfold impl_DecOk.f impl_between.f
      by_cases h : a ≥ -9000000000000
      · rw [if_pos h, decide_eq_false (by omega)]; rfl
      · rw [if_neg h]; rfl
    unfold laws_FnExactDecMul.f spec_DecMul.f impl_DecMul.f impl_areDecs.f
    rw [e1, e2]
    simp [spec_DecMul.j0]

end Go.Proofs.Ytabbpbilkojkhaa.Pure
