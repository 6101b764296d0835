/- For all int64 a and b, the program's DecAdd and the reference's DecAdd answer alike. No condition beyond a and b being int64. -/
import Derived.Test.YtabbpbilkojkhaaPFnExactDecAddx1
namespace Go.Proofs.Ytabbpbilkojkhaa.Pure
open Go.RowKit Go.Proofs.Ytabbpbilkojkhaa.PFnExactDecAdd Go.Proofs.YtabbpbilkojkhaaW.PrintWords Go.Proofs.YtabbpbilkojkhaaW.PrintLast

theorem FnExactDecAdd : laws_FnExactDecAdd.Pure := by
  intro a b _ _
  unfold laws_FnExactDecAdd.f spec_DecAdd.f impl_DecAdd.f spec_l1made.f impl_decOr.f impl_areDecs.f impl_DecOk.f impl_between.f spec_DecOk.f
  by_cases h : a ≥ -9000000000000 <;> by_cases g : a ≤ 9000000000000 <;> by_cases h2 : b ≥ -9000000000000 <;> by_cases g2 : b ≤ 9000000000000 <;> simp [h, g, h2, g2]
  generalize wrap64 _ = c
  by_cases h : -9000000000000 ≤ c <;> by_cases g : c ≤ 9000000000000 <;> simp [h, g]

end Go.Proofs.Ytabbpbilkojkhaa.Pure
