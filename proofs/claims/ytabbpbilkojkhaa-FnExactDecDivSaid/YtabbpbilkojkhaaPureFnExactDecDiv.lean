/- For all int64 a and b, the program's DecDiv and the reference's DecDiv answer alike. No condition beyond a and b being int64. -/
import Derived.Test.YtabbpbilkojkhaaPFnExactDecDivx1
namespace Go.Proofs.Ytabbpbilkojkhaa.Pure
open Go.RowKit Go.Proofs.Ytabbpbilkojkhaa.PFnExactDecDiv Go.Proofs.YtabbpbilkojkhaaW.PrintWords Go.Proofs.YtabbpbilkojkhaaW.PrintLast

theorem FnExactDecDiv : laws_FnExactDecDiv.Pure := by
  intro a b _ _
  unfold laws_FnExactDecDiv.f spec_DecDiv.f impl_DecDiv.f spec_l1made.f impl_decOr.f impl_areDecs.f impl_DecOk.f impl_between.f spec_DecOk.f
  by_cases h : a ≥ -9000000000000 <;> by_cases g : a ≤ 9000000000000 <;> by_cases h2 : b ≥ -9000000000000 <;> by_cases g2 : b ≤ 9000000000000 <;> by_cases z : b = 0 <;> simp [h, g, h2, g2, z]
  generalize wrap64 (Int.tdiv _ _) = c
  by_cases h : -9000000000000 ≤ c <;> by_cases g : c ≤ 9000000000000 <;> simp [h, g]

end Go.Proofs.Ytabbpbilkojkhaa.Pure
