/- Two rows of texts are the same (the laws' own words). -/
import Derived.Test.YtlemhidllcbadaaDoorXBa
import Derived.Test.YtlemhidllcbadaaDoorPFnPutFieldsx
namespace Go.Proofs.YtlemhidllcbadaaDoor.PFnPutFields
set_option linter.unusedVariables false
set_option linter.unusedSimpArgs false
open Go.RowKit Go.Proofs.YtlemhidllcbadaaDoorW.PrintWords Go.Proofs.YtlemhidllcbadaaDoorW.PrintLast Go.Proofs.YtlemhidllcbadaaDoorW.PrintMore Go.Proofs.YtlemhidllcbadaaDoor.XL
theorem same_row (L : List ByteArray) (hL : L.length ≤ 1000000000) : Ev (fun k => laws_sameTexts.f k L L) true := by
  have loop : ∀ (d i : Nat), i + d = L.length → Ev (fun k => laws_sameTexts.l0 k L L (i : Int)) true := by
    intro d
    induction d with
    | zero =>
      intro i h
      refine Ev.step (f := fun _ => some _) (fun k => ?_) (Ev.now _)
      simp only [laws_sameTexts.l0]
      rw [if_neg (by omega)]
    | succ d ih =>
      intro i h
      refine Ev.step (fun k => ?_) (ih (i + 1) (by omega))
      simp only [laws_sameTexts.l0]
      rw [if_pos (by omega), if_pos (by omega), if_pos (by omega), if_pos trivial, wrap_nat1 i (by omega)]
  refine Ev.congr (fun k => ?_) (loop L.length 0 (by omega))
  unfold laws_sameTexts.f
  rw [if_pos rfl]
  rfl
set_option maxRecDepth 100000 in
theorem alive : Ev (fun k => laws_lines.f k) true := Ev.of (fun k => laws_lines.mono k) (k := 12) (by decide +kernel)
end Go.Proofs.YtlemhidllcbadaaDoor.PFnPutFields
