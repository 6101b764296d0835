/- A drawn input of lines. -/
import Derived.Test.YtlemhidllcbadaaDoorXBa
import Derived.Test.YtlemhidllcbadaaDoorPFnLinesx
import Derived.Test.YtlemhidllcbadaaDoorLFnLinesCur
import Derived.Test.YtlemhidllcbadaaDoorLFnLinesOnce
namespace Go.Proofs.YtlemhidllcbadaaDoor.PFnLines
set_option linter.unusedVariables false
set_option linter.unusedSimpArgs false
open Go.RowKit Go.Proofs.YtlemhidllcbadaaDoorW.PrintWords Go.Proofs.YtlemhidllcbadaaDoorW.PrintLast Go.Proofs.YtlemhidllcbadaaDoorW.PrintMore Go.Proofs.YtlemhidllcbadaaDoor.XL
section
variable {b : List Int} (hb : b.length ≤ 140737488351232)
include hb
theorem input_ok (i h : Int) (hi : 0 ≤ i) : ∃ s i' h', Ev (fun k => spec_l8input.f k b i h) (s, i', h') ∧ 0 ≤ i' ∧ s.size ≤ 1000 := by
  have loop : ∀ (d : Nat) (acc : ByteArray) (i h : Int), d ≤ 4 → acc.size + 101 * d ≤ 900 → 0 ≤ i → ∃ s i' h', Ev (fun k => spec_l8input.l0 k acc (d : Int) b i h) (s, i', h') ∧ 0 ≤ i' ∧ s.size ≤ 1000 := by
    intro d
    induction d with
    | zero =>
      intro acc i h _ ha hi
      obtain ⟨x, i1, g1, e1, p1⟩ := once_ok hb i h 3 hi
      by_cases hx : x = true
      · refine ⟨acc ++ (⟨#[101, 110, 100]⟩ : ByteArray), i1, g1, Ev.step (f := fun _ => some _) (fun k => ?_) (Ev.now _), p1, ?_⟩
        · simp only [spec_l8input.l0]
          rw [if_neg (by omega), e1]
          simp only [Option.bind_some]
          rw [if_pos hx, if_pos (by omega)]
        · rw [ByteArray.size_append]; show acc.size + 3 ≤ 1000; omega
      · refine ⟨acc, i1, g1, Ev.step (f := fun _ => some _) (fun k => ?_) (Ev.now _), p1, by omega⟩
        simp only [spec_l8input.l0]
        rw [if_neg (by omega), e1]
        simp only [Option.bind_some]
        rw [if_neg hx]
    | succ d ih =>
      intro acc i h hd ha hi
      obtain ⟨s1, i1, g1, e1, p1, z1⟩ := line_ok hb i h hi
      have z3 : (acc ++ s1).size = acc.size + s1.size := ByteArray.size_append
      have z4 : ((acc ++ s1) ++ (⟨#[10]⟩ : ByteArray)).size = acc.size + s1.size + 1 := by rw [ByteArray.size_append, z3]; rfl
      obtain ⟨s, i3, g3, e3, p3, p4⟩ := ih ((acc ++ s1) ++ (⟨#[10]⟩ : ByteArray)) i1 g1 (by omega) (by omega) p1
      refine ⟨s, i3, g3, ev_use e1 e3 (fun k g1 g2 => ?_), p3, p4⟩
      simp only [spec_l8input.l0]
      rw [if_pos (by omega), g1]
      simp only [Option.bind_some]
      rw [if_pos (by omega), if_pos (by omega), wrap_id (by omega) (by omega), show ((d + 1 : Nat) : Int) - 1 = (d : Int) by omega]
      exact g2
  obtain ⟨x, i1, g1, e1, x0, x1, _, p1⟩ := below_ok b i h 5 hi hb
  have hx := x1 (by omega)
  obtain ⟨d, rfl⟩ := Int.eq_ofNat_of_zero_le x0
  obtain ⟨s, i2, g2, e2, p2, p3⟩ := loop d (⟨#[]⟩ : ByteArray) i1 g1 (by omega) (by show 0 + 101 * d ≤ 900; omega) p1
  refine ⟨s, i2, g2, Ev.congr (fun k => ?_) e2, p2, p3⟩
  unfold spec_l8input.f
  rw [e1]
  rfl
theorem draw_lines : ∃ s, Ev (fun k => spec_DrawLines.f k b) s ∧ s.size ≤ 4000 := by
  obtain ⟨h, K1, e1⟩ := new_ok b hb
  obtain ⟨x, i1, g1, e2, p1⟩ := once_ok hb 0 h 30 (by omega)
  by_cases hx : x = true
  · obtain ⟨y, i2, g2, e3, y0, y1, _, p2⟩ := below_ok b i1 g1 2 p1 hb
    have hy := y1 (by omega)
    obtain ⟨m, rfl⟩ := Int.eq_ofNat_of_zero_le y0
    obtain ⟨s, i3, g3, ⟨K2, e4⟩, p3, p4⟩ := of_ok hb i2 g2 (3000 + m) (⟨#[97, 10]⟩ : ByteArray) p2 (by decide) (by decide) (by omega)
    refine ⟨s, ⟨K1 + K2, fun k hk => ?_⟩, by omega⟩
    show spec_DrawLines.f k b = _
    unfold spec_DrawLines.f
    rw [(show spec_l1New.f k b = _ from e1 k (by omega))]
    simp only [Option.bind_some]
    rw [e2]
    simp only [Option.bind_some]
    rw [if_pos hx, e3]
    simp only [Option.bind_some]
    rw [wrap_id (by omega) (by omega), show (3000 + (m : Int)) = ((3000 + m : Nat) : Int) by omega, (show spec_l1of.f k b i2 g2 ((3000 + m : Nat) : Int) (⟨#[97, 10]⟩ : ByteArray) = _ from e4 k (by omega))]
    rfl
  · obtain ⟨s, i3, g3, ⟨K2, e4⟩, p3, p4⟩ := input_ok hb i1 g1 p1
    refine ⟨s, ⟨K1 + K2, fun k hk => ?_⟩, by omega⟩
    show spec_DrawLines.f k b = _
    unfold spec_DrawLines.f
    rw [(show spec_l1New.f k b = _ from e1 k (by omega))]
    simp only [Option.bind_some]
    rw [e2]
    simp only [Option.bind_some]
    rw [if_neg hx, (show spec_l8input.f k b i1 g1 = _ from e4 k (by omega))]
    rfl
end
end Go.Proofs.YtlemhidllcbadaaDoor.PFnLines
