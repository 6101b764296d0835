/- For every int64 n, the program's DecInt and the reference's DecInt answer alike. No condition beyond n being an int64. -/
import Derived.Test.YtbaiaflphdkecaaPFnExactDecIntx1
namespace Go.Proofs.Ytbaiaflphdkecaa.Pure
open Go.RowKit Go.Proofs.Ytbaiaflphdkecaa.PFnExactDecInt Go.Proofs.YtbaiaflphdkecaaW.PrintWords Go.Proofs.YtbaiaflphdkecaaW.PrintLast

theorem FnExactDecInt : laws_FnExactDecInt.Pure := by
  intro a _
  unfold laws_FnExactDecInt.f spec_DecInt.f impl_DecInt.f spec_DecOk.f impl_DecOk.f impl_between.f
  by_cases h : a ≥ -9000000000000 <;> by_cases g : a ≤ 9000000000000 <;> simp [h, g]

end Go.Proofs.Ytbaiaflphdkecaa.Pure
