/- A drawn text of fields. -/
import Derived.Test.YtlemhidllcbadaaDoorXBa
import Derived.Test.YtlemhidllcbadaaDoorPFnSplitsx
import Derived.Test.YtlemhidllcbadaaDoorLFnSplitsCur
import Derived.Test.YtlemhidllcbadaaDoorLFnSplitsOnce
namespace Go.Proofs.YtlemhidllcbadaaDoor.PFnSplits
set_option linter.unusedVariables false
set_option linter.unusedSimpArgs false
open Go.RowKit Go.Proofs.YtlemhidllcbadaaDoorW.PrintWords Go.Proofs.YtlemhidllcbadaaDoorW.PrintLast Go.Proofs.YtlemhidllcbadaaDoorW.PrintMore Go.Proofs.YtlemhidllcbadaaDoor.XL
theorem draw_fields {b : List Int} (hb : b.length ≤ 140737488351232) : ∃ s, Ev (fun k => spec_DrawFields.f k b) s ∧ s.size ≤ 1000 := by
  obtain ⟨h, K1, e1⟩ := new_ok b hb
  obtain ⟨x, i1, g1, e2, p1⟩ := once_ok hb 0 h 20 (by omega)
  by_cases hx : x = true
  · obtain ⟨y, i2, g2, e3, y0, y1, _, p2⟩ := below_ok b i1 g1 2 p1 hb
    have hy := y1 (by omega)
    obtain ⟨m, rfl⟩ := Int.eq_ofNat_of_zero_le y0
    obtain ⟨s, i3, g3, ⟨K2, e4⟩, p3, p4⟩ := of_ok hb i2 g2 (500 + m) (⟨#[97, 32]⟩ : ByteArray) p2 (by decide) (by decide) (by omega)
    refine ⟨s, ⟨K1 + K2, fun k hk => ?_⟩, by omega⟩
    show spec_DrawFields.f k b = _
    unfold spec_DrawFields.f
    rw [(show spec_l1New.f k b = _ from e1 k (by omega))]
    simp only [Option.bind_some]
    rw [e2]
    simp only [Option.bind_some]
    rw [if_pos hx, e3]
    simp only [Option.bind_some]
    rw [wrap_id (by omega) (by omega), show (500 + (m : Int)) = ((500 + m : Nat) : Int) by omega, (show spec_l1of.f k b i2 g2 ((500 + m : Nat) : Int) (⟨#[97, 32]⟩ : ByteArray) = _ from e4 k (by omega))]
    rfl
  · obtain ⟨s, i3, g3, ⟨K2, e4⟩, p3, p4⟩ := line_ok hb i1 g1 p1
    refine ⟨s, ⟨K1 + K2, fun k hk => ?_⟩, by omega⟩
    show spec_DrawFields.f k b = _
    unfold spec_DrawFields.f
    rw [(show spec_l1New.f k b = _ from e1 k (by omega))]
    simp only [Option.bind_some]
    rw [e2]
    simp only [Option.bind_some]
    rw [if_neg hx, (show spec_l8line.f k b i1 g1 = _ from e4 k (by omega))]
    rfl
end Go.Proofs.YtlemhidllcbadaaDoor.PFnSplits
