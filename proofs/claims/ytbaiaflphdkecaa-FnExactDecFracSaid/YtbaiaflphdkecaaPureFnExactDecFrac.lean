/- For every int64 n, the program's DecFrac and the reference's DecFrac answer alike. No condition beyond n being an int64. -/
import Derived.Test.YtbaiaflphdkecaaPFnExactDecFracx1
namespace Go.Proofs.Ytbaiaflphdkecaa.Pure
open Go.RowKit Go.Proofs.Ytbaiaflphdkecaa.PFnExactDecFrac Go.Proofs.YtbaiaflphdkecaaW.PrintWords Go.Proofs.YtbaiaflphdkecaaW.PrintLast

theorem FnExactDecFrac : laws_FnExactDecFrac.Pure := by
  intro a _
  unfold laws_FnExactDecFrac.f spec_DecFrac.f impl_DecFrac.f spec_DecOk.f impl_DecOk.f impl_between.f
  by_cases h : a ≥ -9000000000000 <;> by_cases g : a ≤ 9000000000000 <;> simp [h, g]

end Go.Proofs.Ytbaiaflphdkecaa.Pure
