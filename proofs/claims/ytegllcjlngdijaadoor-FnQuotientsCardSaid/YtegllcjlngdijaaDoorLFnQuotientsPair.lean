/- A drawn pair of decimals. -/
import Derived.Test.YtegllcjlngdijaaDoorXBa
import Derived.Test.YtegllcjlngdijaaDoorPFnQuotientsx
import Derived.Test.YtegllcjlngdijaaDoorLFnQuotientsCur
import Derived.Test.YtegllcjlngdijaaDoorLFnQuotientsPick
namespace Go.Proofs.YtegllcjlngdijaaDoor.PFnQuotients
set_option linter.unusedVariables false
set_option linter.unusedSimpArgs false
open Go.RowKit Go.Proofs.YtegllcjlngdijaaDoorW.PrintWords Go.Proofs.YtegllcjlngdijaaDoorW.PrintLast Go.Proofs.YtegllcjlngdijaaDoorW.PrintMore Go.Proofs.YtegllcjlngdijaaDoor.XL
theorem draw_pair {l : List Int} (hb : l.length ≤ 140737488351232) : ∃ a b, Ev (fun k => spec_l1pair.f k l) (a, b) ∧ (-9223372036854775808 ≤ a ∧ a ≤ 9223372036854775807) ∧ (-9223372036854775808 ≤ b ∧ b ≤ 9223372036854775807) := by
  obtain ⟨h, K1, e1⟩ := new_ok l hb
  obtain ⟨a, i1, g1, e2, p1, ra⟩ := num_ok hb 0 h (by omega)
  obtain ⟨b, i2, g2, e3, p2, rb⟩ := num_ok hb i1 g1 p1
  refine ⟨a, b, ⟨K1, fun k hk => ?_⟩, ra, rb⟩
  show spec_l1pair.f k l = _
  unfold spec_l1pair.f
  rw [(show spec_l1New.f k l = _ from e1 k (by omega))]
  simp only [Option.bind_some]
  rw [e2]
  simp only [Option.bind_some]
  rw [e3]
  rfl
theorem okI {a : Int} (h : -9000000000000 ≤ a ∧ a ≤ 9000000000000) : impl_DecOk.f a = some true := by
  unfold impl_DecOk.f impl_between.f
  rw [if_pos (by omega), decide_eq_true (by omega)]; rfl
theorem noI {a : Int} (h : ¬ (-9000000000000 ≤ a ∧ a ≤ 9000000000000)) : impl_DecOk.f a = some false := by
  unfold impl_DecOk.f impl_between.f
  by_cases g : a ≥ -9000000000000
  · rw [if_pos g, decide_eq_false (by omega)]; rfl
  · rw [if_neg g]; rfl
theorem okS {a : Int} (h : -9000000000000 ≤ a ∧ a ≤ 9000000000000) : spec_DecOk.f a = some true := by
  unfold spec_DecOk.f
  rw [if_pos (by omega), decide_eq_true (by omega)]
theorem noS {a : Int} (h : ¬ (-9000000000000 ≤ a ∧ a ≤ 9000000000000)) : spec_DecOk.f a = some false := by
  unfold spec_DecOk.f
  by_cases g : a ≥ -9000000000000
  · rw [if_pos g, decide_eq_false (by omega)]
  · rw [if_neg g]
theorem areI (a b : Int) : impl_areDecs.f a b = some (decide ((-9000000000000 ≤ a ∧ a ≤ 9000000000000) ∧ (-9000000000000 ≤ b ∧ b ≤ 9000000000000))) := by
  unfold impl_areDecs.f
  by_cases ha : -9000000000000 ≤ a ∧ a ≤ 9000000000000
  · rw [okI ha, Option.bind_some, if_pos (rfl : true = true)]
    by_cases hb : -9000000000000 ≤ b ∧ b ≤ 9000000000000
    · rw [okI hb, decide_eq_true ⟨ha, hb⟩]; rfl
    · rw [noI hb, decide_eq_false (fun z => hb z.2)]; rfl
  · rw [noI ha, Option.bind_some, if_neg (by simp), decide_eq_false (fun z => ha z.1)]
end Go.Proofs.YtegllcjlngdijaaDoor.PFnQuotients
