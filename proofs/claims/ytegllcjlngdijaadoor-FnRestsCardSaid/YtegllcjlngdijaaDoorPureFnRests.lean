/- FnRests: what DecMod leaves is a rest, and DecInt and DecFrac part a decimal. -/
import Derived.Test.YtegllcjlngdijaaDoorPFnRestsx6
import Derived.Test.YtegllcjlngdijaaDoorXSign
import Derived.Test.YtegllcjlngdijaaDoorXBa
import Derived.Test.YtegllcjlngdijaaDoorLFnRestsPair
import Derived.Test.YtegllcjlngdijaaDoorLFnRestsSums
namespace Go.Proofs.YtegllcjlngdijaaDoor.Pure
set_option linter.unusedVariables false
set_option linter.unusedSimpArgs false
open Go.RowKit Go.Proofs.YtegllcjlngdijaaDoor.PFnRests Go.Proofs.YtegllcjlngdijaaDoorW.PrintWords Go.Proofs.YtegllcjlngdijaaDoorW.PrintLast Go.Proofs.YtegllcjlngdijaaDoorW.PrintMore Go.Proofs.YtegllcjlngdijaaDoor.XL

def modV (a b : Int) : Int × Bool :=
  if ((-9000000000000 ≤ a ∧ a ≤ 9000000000000) ∧ (-9000000000000 ≤ b ∧ b ≤ 9000000000000)) ∧ b ≠ 0 then (Int.tmod a b, true) else (0, false)
theorem mod_impl (a b : Int) : impl_DecMod.f a b = some (modV a b) := by
  unfold impl_DecMod.f modV
  rw [areI, Option.bind_some]
  by_cases h : (-9000000000000 ≤ a ∧ a ≤ 9000000000000) ∧ (-9000000000000 ≤ b ∧ b ≤ 9000000000000)
  · rw [if_pos (decide_eq_true h)]
    by_cases hb : b = 0
    · rw [if_pos hb, if_neg (fun z => z.2 hb)]
    · rw [if_neg hb, if_pos ⟨h, hb⟩]
  · rw [if_neg (by simpa using h), if_neg (fun z => h z.1)]
theorem mod_spec (a b : Int) : spec_DecMod.f a b = some (modV a b) := by
  unfold spec_DecMod.f modV
  by_cases ha : -9000000000000 ≤ a ∧ a ≤ 9000000000000
  · rw [okS ha, Option.bind_some, if_pos (rfl : true = true)]
    by_cases hb2 : -9000000000000 ≤ b ∧ b ≤ 9000000000000
    · rw [okS hb2, Option.bind_some, if_pos (rfl : true = true)]
      by_cases hb : b = 0
      · rw [if_pos hb, if_neg (fun z => z.2 hb)]
      · rw [if_neg hb, if_pos ⟨⟨ha, hb2⟩, hb⟩]
    · rw [noS hb2, Option.bind_some, if_neg (by simp), if_neg (fun z => hb2 z.1.2)]
  · rw [noS ha, Option.bind_some, if_neg (by simp), if_neg (fun z => ha z.1.1)]
theorem FnRests : laws_FnRests.Pure := by
  intro l h1 h2 h3
  obtain ⟨a, b, ⟨K1, e1⟩, _, _⟩ := draw_pair (l := l) (by omega)
  obtain ⟨K2, e2⟩ := alive
  have hd : spec_DrawDecMod.f (K1 + K2 + 1) l = some (a, b) := by
    unfold spec_DrawDecMod.f
    rw [(show spec_l1pair.f (K1 + K2 + 1) l = _ from e1 _ (by omega))]; rfl
  have hs : laws_sums.f (K1 + K2) = some true := e2 _ (by omega)
  have key : laws_FnRests.j0 (K1 + K2 + 1) a b (modV a b).1 (modV a b).2 = some true := by
    by_cases h : ((-9000000000000 ≤ a ∧ a ≤ 9000000000000) ∧ (-9000000000000 ≤ b ∧ b ≤ 9000000000000)) ∧ b ≠ 0
    · have hv : modV a b = (Int.tmod a b, true) := by unfold modV; rw [if_pos h]
      rw [hv]
      simp only [laws_FnRests.j0]
      rw [if_pos (by trivial)]
      by_cases hb : b < 0
      · have hm := tmod_law a b (-b) h.2 (.inr rfl) (by omega)
        rw [if_pos hb, wrap_id (n := -b) (by omega) (by omega), wrap_id (n := - -b) (by omega) (by omega), wrap_id (n := a - Int.tmod a b) (by omega) (by omega), if_pos hm.1, if_pos hm.2.1]
        by_cases h0 : Int.tmod a b = 0
        · rw [if_pos h0, if_neg (by omega), if_pos hm.2.2.2, hs]; rfl
        · have hsg : decide (Int.tmod a b < 0) = decide (a < 0) := by
            rcases hm.2.2.1 with z | z
            · exact absurd z h0
            · exact z
          rw [if_neg h0, hsg, if_pos (by simp), if_neg (by omega), if_pos hm.2.2.2, hs]; rfl
      · have hm := tmod_law a b b h.2 (.inl rfl) (by have := h.2; omega)
        rw [if_neg hb, wrap_id (n := -b) (by omega) (by omega), wrap_id (n := a - Int.tmod a b) (by omega) (by omega), if_pos hm.1, if_pos hm.2.1]
        by_cases h0 : Int.tmod a b = 0
        · rw [if_pos h0, if_neg h.2, if_pos hm.2.2.2, hs]; rfl
        · have hsg : decide (Int.tmod a b < 0) = decide (a < 0) := by
            rcases hm.2.2.1 with z | z
            · exact absurd z h0
            · exact z
          rw [if_neg h0, hsg, if_pos (by simp), if_neg h.2, if_pos hm.2.2.2, hs]; rfl
    · have hv : modV a b = (0, false) := by unfold modV; rw [if_neg h]
      rw [hv]
      simp only [laws_FnRests.j0]
      rw [if_neg (by simp), if_pos (by trivial), hs]; rfl
  refine ⟨K1 + K2 + 1, ?_⟩
  unfold laws_FnRests.f
  rw [hd, Option.bind_some, mod_impl, Option.bind_some, mod_spec, Option.bind_some, if_neg (by simp)]
  by_cases ha : -9000000000000 ≤ a ∧ a ≤ 9000000000000
  · have hq := tdiv_bound a 1000000
    have hi : impl_DecInt.f a = some (Int.tdiv a 1000000 * 1000000) := by
      unfold impl_DecInt.f
      have hm := Int.mul_tdiv_add_tmod a 1000000
      have hl := tmod_law a 1000000 1000000 (by omega) (.inl rfl) (by omega)
      rw [okI ha, Option.bind_some, if_pos (rfl : true = true), wrap_id (n := Int.tdiv a 1000000) (by omega) (by omega), wrap_id (by omega) (by omega)]
    have hf : impl_DecFrac.f a = some (Int.tmod a 1000000) := by
      unfold impl_DecFrac.f
      rw [okI ha, Option.bind_some, if_pos (rfl : true = true)]
    have hm := Int.mul_tdiv_add_tmod a 1000000
    have hl := tmod_law a 1000000 1000000 (by omega) (.inl rfl) (by omega)
    have hz : Int.tmod (Int.tdiv a 1000000 * 1000000) 1000000 = 0 := Int.mul_tmod_left _ _
    rw [okI ha, Option.bind_some, if_pos (rfl : true = true), hi, Option.bind_some, hf, Option.bind_some, if_pos (by rw [wrap_id (by omega) (by omega)]; omega), if_pos hz, if_neg (by omega), if_neg (by omega)]
    exact key
  · rw [noI ha, Option.bind_some, if_neg (by simp)]
    exact key

end Go.Proofs.YtegllcjlngdijaaDoor.Pure
