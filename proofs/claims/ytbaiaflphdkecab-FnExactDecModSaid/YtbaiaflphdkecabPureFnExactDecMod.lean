/- For all int64 a and b, the program's DecMod and the reference's DecMod answer alike. No condition beyond a and b being int64. -/
import Derived.Test.YtbaiaflphdkecabPFnExactDecModx1
namespace Go.Proofs.Ytbaiaflphdkecab.Pure
open Go.RowKit Go.Proofs.Ytbaiaflphdkecab.PFnExactDecMod Go.Proofs.YtbaiaflphdkecabW.PrintWords Go.Proofs.YtbaiaflphdkecabW.PrintLast

theorem FnExactDecMod : laws_FnExactDecMod.Pure := by
  intro a b _ _
  unfold laws_FnExactDecMod.f spec_DecMod.f impl_DecMod.f impl_areDecs.f spec_DecOk.f impl_DecOk.f impl_between.f
  by_cases h : a ≥ -9000000000000 <;> by_cases g : a ≤ 9000000000000 <;> by_cases h2 : b ≥ -9000000000000 <;> by_cases g2 : b ≤ 9000000000000 <;> by_cases z : b = 0 <;> simp [h, g, h2, g2, z]

end Go.Proofs.Ytbaiaflphdkecab.Pure
