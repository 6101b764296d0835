/- For all int64 a and b, the program's DecSub and the reference's DecSub answer alike. No condition beyond a and b being int64. -/
import Derived.Test.YtabbpbilkojkhaaPFnExactDecSubx1
namespace Go.Proofs.Ytabbpbilkojkhaa.Pure
open Go.RowKit Go.Proofs.Ytabbpbilkojkhaa.PFnExactDecSub Go.Proofs.YtabbpbilkojkhaaW.PrintWords Go.Proofs.YtabbpbilkojkhaaW.PrintLast

theorem FnExactDecSub : laws_FnExactDecSub.Pure := by
  intro a b _ _
  unfold laws_FnExactDecSub.f spec_DecSub.f impl_DecSub.f spec_l1made.f impl_decOr.f impl_areDecs.f impl_DecOk.f impl_between.f spec_DecOk.f
  by_cases h : a ≥ -9000000000000 <;> by_cases g : a ≤ 9000000000000 <;> by_cases h2 : b ≥ -9000000000000 <;> by_cases g2 : b ≤ 9000000000000 <;> simp [h, g, h2, g2]
  generalize wrap64 _ = c
  by_cases h : -9000000000000 ≤ c <;> by_cases g : c ≤ 9000000000000 <;> simp [h, g]

end Go.Proofs.Ytabbpbilkojkhaa.Pure
