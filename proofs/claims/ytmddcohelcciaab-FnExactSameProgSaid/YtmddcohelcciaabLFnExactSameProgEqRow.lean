/- Two rows of texts are the same. -/
import Derived.Test.YtmddcohelcciaabXLem
import Derived.Test.YtmddcohelcciaabPFnExactSameProgx
namespace Go.Proofs.Ytmddcohelcciaab.PFnExactSameProg
set_option linter.unusedVariables false
set_option linter.unusedSimpArgs false
open Go.RowKit Go.Proofs.YtmddcohelcciaabW.PrintWords Go.Proofs.YtmddcohelcciaabW.PrintLast Go.Proofs.YtmddcohelcciaabW.PrintMore Go.Proofs.Ytmddcohelcciaab.XL
theorem eq_row (L : List ByteArray) (hL : L.length ≤ 1000000000) : Ev (fun k => laws_eqStringS.f k L L) true := by
  have loop : ∀ (d i : Nat), i + d = L.length → Ev (fun k => laws_eqStringS.l0 k L L (i : Int)) true := by
    intro d
    induction d with
    | zero =>
      intro i h
      refine Ev.step (f := fun _ => some _) (fun k => ?_) (Ev.now _)
      simp only [laws_eqStringS.l0]
      rw [if_neg (by omega)]
    | succ d ih =>
      intro i h
      refine Ev.step (fun k => ?_) (ih (i + 1) (by omega))
      simp only [laws_eqStringS.l0]
      rw [if_pos (by omega), if_pos (by omega), if_pos (by omega), if_pos trivial, wrap_nat1 i (by omega)]
  refine Ev.congr (fun k => ?_) (loop L.length 0 (by omega))
  unfold laws_eqStringS.f
  rw [if_pos rfl]
  rfl
end Go.Proofs.Ytmddcohelcciaab.PFnExactSameProg
