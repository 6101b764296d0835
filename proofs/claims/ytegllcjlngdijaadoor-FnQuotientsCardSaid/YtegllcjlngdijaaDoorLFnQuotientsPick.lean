/- A cursor's pick out of a row of numbers, and a drawn decimal. -/
import Derived.Test.YtegllcjlngdijaaDoorXBa
import Derived.Test.YtegllcjlngdijaaDoorPFnQuotientsx
import Derived.Test.YtegllcjlngdijaaDoorLFnQuotientsCur
namespace Go.Proofs.YtegllcjlngdijaaDoor.PFnQuotients
set_option linter.unusedVariables false
set_option linter.unusedSimpArgs false
open Go.RowKit Go.Proofs.YtegllcjlngdijaaDoorW.PrintWords Go.Proofs.YtegllcjlngdijaaDoorW.PrintLast Go.Proofs.YtegllcjlngdijaaDoorW.PrintMore Go.Proofs.YtegllcjlngdijaaDoor.XL
theorem wrap_range (n : Int) : -9223372036854775808 ≤ wrap64 n ∧ wrap64 n ≤ 9223372036854775807 := by
  unfold wrap64
  omega
section
variable {b : List Int} (hb : b.length ≤ 140737488351232)
include hb
theorem pick_ok (i h : Int) (l : List Int) (hi : 0 ≤ i) (hl : 0 < l.length) : ∃ x i' h', spec_l1PickInt.f b i h l = some (x, i', h') ∧ 0 ≤ i' ∧ x ∈ l := by
  obtain ⟨x, i1, g1, e1, x0, x1, _, p1⟩ := below_ok b i h (l.length : Int) hi hb
  have hx := x1 (by omega)
  refine ⟨rd l x, i1, g1, ?_, p1, ?_⟩
  · unfold spec_l1PickInt.f
    rw [e1]
    simp only [Option.bind_some]
    rw [if_pos x0, if_pos hx]
  · unfold rd
    rw [List.getD_eq_getElem?_getD, List.getElem?_eq_getElem (show x.toNat < l.length by omega)]
    exact List.getElem_mem _
theorem num_ok (i h : Int) (hi : 0 ≤ i) : ∃ x i' h', spec_l1num.f b i h = some (x, i', h') ∧ 0 ≤ i' ∧ -9223372036854775808 ≤ x ∧ x ≤ 9223372036854775807 := by
  obtain ⟨x, i1, g1, e1, x0, x1, _, p1⟩ := below_ok b i h 4 hi hb
  unfold spec_l1num.f
  rw [e1]
  simp only [Option.bind_some]
  by_cases h0 : x = 0
  · rw [if_pos h0]
    obtain ⟨y, i2, g2, e2, p2, m2⟩ := pick_ok hb i1 g1 ([0, 1, (-1), 1000000, (-1000000), 9000000000000, (-9000000000000), 9000000000001, (-9000000000001), 500000, 4611686018427387904, 3000000] : List Int) p1 (by simp)
    rw [e2]
    simp only [List.mem_cons, List.mem_nil_iff, or_false] at m2
    exact ⟨y, i2, g2, rfl, p2, by omega, by omega⟩
  · rw [if_neg h0]
    by_cases h1 : x = 1
    · rw [if_pos h1]
      obtain ⟨y, i2, g2, e2, _, _, _, p2⟩ := below_ok b i1 g1 4294967296 p1 hb
      rw [e2]
      exact ⟨_, i2, g2, rfl, p2, (wrap_range _).1, (wrap_range _).2⟩
    · rw [if_neg h1]
      obtain ⟨y, i2, g2, e2, _, _, _, p2⟩ := below_ok b i1 g1 30 p1 hb
      rw [e2]
      simp only [Option.bind_some]
      obtain ⟨z, i3, g3, e3, p3, m3⟩ := pick_ok hb i2 g2 ([0, 0, 500000, 250000, 1] : List Int) p2 (by simp)
      rw [e3]
      exact ⟨_, i3, g3, rfl, p3, (wrap_range _).1, (wrap_range _).2⟩
end
end Go.Proofs.YtegllcjlngdijaaDoor.PFnQuotients
