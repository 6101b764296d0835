/- For all int64 a and b, the program's DecCmp and the reference's DecCmp answer alike. No condition beyond a and b being int64. -/
import Derived.Test.YtbaiaflphdkecabPFnExactDecCmpx1
namespace Go.Proofs.Ytbaiaflphdkecab.Pure
open Go.RowKit Go.Proofs.Ytbaiaflphdkecab.PFnExactDecCmp Go.Proofs.YtbaiaflphdkecabW.PrintWords Go.Proofs.YtbaiaflphdkecabW.PrintLast

theorem FnExactDecCmp : laws_FnExactDecCmp.Pure := by
  intro a b _ _
  refine ⟨1, ?_⟩
  unfold laws_FnExactDecCmp.f spec_DecCmp.f impl_DecCmp.f impl_areDecs.f spec_DecOk.f impl_DecOk.f impl_between.f spec_DecCmp.j0 impl_DecCmp.j0
  by_cases h : a ≥ -9000000000000 <;> by_cases g : a ≤ 9000000000000 <;> by_cases h2 : b ≥ -9000000000000 <;> by_cases g2 : b ≤ 9000000000000 <;> by_cases z : a = b <;> by_cases l : a < b <;> simp [h, g, h2, g2, z, l]

end Go.Proofs.Ytbaiaflphdkecab.Pure
