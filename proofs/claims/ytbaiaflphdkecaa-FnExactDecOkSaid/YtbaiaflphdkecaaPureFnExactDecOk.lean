/- For every int64 n, the program's DecOk and the reference's DecOk answer alike. No condition beyond n being an int64. -/
import Derived.Test.YtbaiaflphdkecaaPFnExactDecOkx1
namespace Go.Proofs.Ytbaiaflphdkecaa.Pure
open Go.RowKit Go.Proofs.Ytbaiaflphdkecaa.PFnExactDecOk Go.Proofs.YtbaiaflphdkecaaW.PrintWords Go.Proofs.YtbaiaflphdkecaaW.PrintLast

theorem FnExactDecOk : laws_FnExactDecOk.Pure := by
  intro a _
  unfold laws_FnExactDecOk.f spec_DecOk.f impl_DecOk.f impl_between.f
  by_cases h : a ≥ -9000000000000 <;> simp [h]

end Go.Proofs.Ytbaiaflphdkecaa.Pure
