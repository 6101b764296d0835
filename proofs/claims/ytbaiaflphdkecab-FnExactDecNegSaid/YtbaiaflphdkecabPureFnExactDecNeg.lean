/- For every int64 n, the program's DecNeg and the reference's DecNeg answer alike. No condition beyond n being an int64. -/
import Derived.Test.YtbaiaflphdkecabPFnExactDecNegx1
namespace Go.Proofs.Ytbaiaflphdkecab.Pure
open Go.RowKit Go.Proofs.Ytbaiaflphdkecab.PFnExactDecNeg Go.Proofs.YtbaiaflphdkecabW.PrintWords Go.Proofs.YtbaiaflphdkecabW.PrintLast

theorem FnExactDecNeg : laws_FnExactDecNeg.Pure := by
  intro a _
  unfold laws_FnExactDecNeg.f spec_DecNeg.f impl_DecNeg.f spec_DecOk.f impl_DecOk.f impl_between.f
  by_cases h : a ≥ -9000000000000 <;> by_cases g : a ≤ 9000000000000 <;> simp [h, g]

end Go.Proofs.Ytbaiaflphdkecab.Pure
