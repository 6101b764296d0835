/- FieldCell: the program's and the reference's answer alike. -/
import Derived.Test.YtabbpbilkojkhaaXLem
import Derived.Test.YtabbpbilkojkhaaPFnExactFieldCellx
import Derived.Test.YtabbpbilkojkhaaLFnExactFieldCellReadDec
import Derived.Test.YtabbpbilkojkhaaLFnExactFieldCellLooksNum
namespace Go.Proofs.Ytabbpbilkojkhaa.PFnExactFieldCell
set_option linter.unusedVariables false
set_option linter.unusedSimpArgs false
open Go.RowKit Go.Proofs.YtabbpbilkojkhaaW.PrintWords Go.Proofs.YtabbpbilkojkhaaW.PrintLast Go.Proofs.YtabbpbilkojkhaaW.PrintMore Go.Proofs.Ytabbpbilkojkhaa.XL

def fieldV (s : ByteArray) : Int × Int × ByteArray := if (s.size : Int) > 500 then (0, 0, (⟨#[]⟩ : ByteArray)) else if looks s = true then (3, (readV s).1, s) else (2, 0, s)

theorem spec_field (s : ByteArray) (hs : s.size ≤ 140737488351232) : Ev (fun k => spec_FieldCell.f k s) (fieldV s) := by
  unfold fieldV
  by_cases h : (s.size : Int) > 500
  · rw [if_pos h]
    exact Ev.congr (f := fun _ => some _) (fun k => by unfold spec_FieldCell.f; rw [if_pos h]) (Ev.now _)
  · rw [if_neg h]
    refine ev_use0 (spec_looks s hs) (spec_read s hs) (fun k g1 g2 => ?_)
    unfold spec_FieldCell.f
    rw [if_neg h, g1, Option.bind_some]
    cases looks s with
    | true => rw [if_pos (by trivial), if_pos (by trivial), g2, Option.bind_some]
    | false => rw [if_neg (by simp), if_neg (by simp)]
theorem impl_field (s : ByteArray) (hs : s.size ≤ 140737488351232) : Ev (fun k => impl_FieldCell.f k s) (fieldV s) := by
  unfold fieldV
  by_cases h : (s.size : Int) > 500
  · rw [if_pos h]
    exact Ev.congr (f := fun _ => some _) (fun k => by unfold impl_FieldCell.f; rw [if_pos h]) (Ev.now _)
  · rw [if_neg h]
    refine ev_use0 (impl_looks s hs) (impl_read s hs) (fun k g1 g2 => ?_)
    unfold impl_FieldCell.f impl_fieldCell.f
    rw [if_neg h, g1, Option.bind_some]
    cases looks s with
    | true => rw [if_pos (by trivial), if_pos (by trivial), g2]; rfl
    | false => rw [if_neg (by simp), if_neg (by simp)]; rfl
theorem eqCell_refl (a b : Int) (s : ByteArray) : laws_eqCell.f a b s a b s = some true := by
  unfold laws_eqCell.f
  simp
end Go.Proofs.Ytabbpbilkojkhaa.PFnExactFieldCell
