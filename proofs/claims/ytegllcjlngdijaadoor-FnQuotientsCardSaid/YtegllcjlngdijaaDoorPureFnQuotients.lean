/- FnQuotients: what DecDiv answers is a quotient. -/
import Derived.Test.YtegllcjlngdijaaDoorPFnQuotientsx5
import Derived.Test.YtegllcjlngdijaaDoorXSign
import Derived.Test.YtegllcjlngdijaaDoorXBa
import Derived.Test.YtegllcjlngdijaaDoorLFnQuotientsPair
import Derived.Test.YtegllcjlngdijaaDoorLFnQuotientsSums
namespace Go.Proofs.YtegllcjlngdijaaDoor.Pure
set_option linter.unusedVariables false
set_option linter.unusedSimpArgs false
open Go.RowKit Go.Proofs.YtegllcjlngdijaaDoor.PFnQuotients Go.Proofs.YtegllcjlngdijaaDoorW.PrintWords Go.Proofs.YtegllcjlngdijaaDoorW.PrintLast Go.Proofs.YtegllcjlngdijaaDoorW.PrintMore Go.Proofs.YtegllcjlngdijaaDoor.XL

def divV (a b : Int) : Int × Bool :=
  if ((-9000000000000 ≤ a ∧ a ≤ 9000000000000) ∧ (-9000000000000 ≤ b ∧ b ≤ 9000000000000)) ∧ b ≠ 0 ∧ (-9000000000000 ≤ Int.tdiv (a * 1000000) b ∧ Int.tdiv (a * 1000000) b ≤ 9000000000000) then (Int.tdiv (a * 1000000) b, true) else (0, false)
theorem quot_wrap {a : Int} (b : Int) (h : -9000000000000 ≤ a ∧ a ≤ 9000000000000) : wrap64 (Int.tdiv (wrap64 (a * 1000000)) b) = Int.tdiv (a * 1000000) b := by
  have hb := tdiv_bound (a * 1000000) b
  rw [wrap_id (n := a * 1000000) (by omega) (by omega), wrap_id (by omega) (by omega)]
theorem div_impl (a b : Int) : impl_DecDiv.f a b = some (divV a b) := by
  unfold impl_DecDiv.f divV
  rw [areI, Option.bind_some]
  by_cases h : (-9000000000000 ≤ a ∧ a ≤ 9000000000000) ∧ (-9000000000000 ≤ b ∧ b ≤ 9000000000000)
  · rw [if_pos (decide_eq_true h)]
    by_cases hb : b = 0
    · rw [if_pos hb, if_neg (fun z => z.2.1 hb)]
    · rw [if_neg hb, quot_wrap b h.1]
      unfold impl_decOr.f
      by_cases hq : -9000000000000 ≤ Int.tdiv (a * 1000000) b ∧ Int.tdiv (a * 1000000) b ≤ 9000000000000
      · rw [okI hq, if_pos ⟨h, hb, hq⟩]; rfl
      · rw [noI hq, if_neg (fun z => hq z.2.2)]; rfl
  · rw [if_neg (by simpa using h), if_neg (fun z => h z.1)]
theorem div_spec (a b : Int) : spec_DecDiv.f a b = some (divV a b) := by
  unfold spec_DecDiv.f divV
  by_cases ha : -9000000000000 ≤ a ∧ a ≤ 9000000000000
  · rw [okS ha, Option.bind_some, if_pos (rfl : true = true)]
    by_cases hb2 : -9000000000000 ≤ b ∧ b ≤ 9000000000000
    · rw [okS hb2, Option.bind_some, if_pos (rfl : true = true)]
      by_cases hb : b = 0
      · rw [if_pos hb, if_neg (fun z => z.2.1 hb)]
      · rw [if_neg hb, quot_wrap b ha]
        unfold spec_l1made.f
        by_cases hq : -9000000000000 ≤ Int.tdiv (a * 1000000) b ∧ Int.tdiv (a * 1000000) b ≤ 9000000000000
        · rw [okS hq, if_pos ⟨⟨ha, hb2⟩, hb, hq⟩]; rfl
        · rw [noS hq, if_neg (fun z => hq z.2.2)]; rfl
    · rw [noS hb2, Option.bind_some, if_neg (by simp), if_neg (fun z => hb2 z.1.2)]
  · rw [noS ha, Option.bind_some, if_neg (by simp), if_neg (fun z => ha z.1.1)]
theorem FnQuotients : laws_FnQuotients.Pure := by
  intro l h1 h2 h3
  obtain ⟨a, b, ⟨K1, e1⟩, _, _⟩ := draw_pair (l := l) (by omega)
  obtain ⟨K2, e2⟩ := alive
  have hd : spec_DrawDecDiv.f (K1 + K2 + 1) l = some (a, b) := by
    unfold spec_DrawDecDiv.f
    rw [(show spec_l1pair.f (K1 + K2 + 1) l = _ from e1 _ (by omega))]; rfl
  have hs : laws_sums.f (K1 + K2) = some true := e2 _ (by omega)
  refine ⟨K1 + K2 + 1, ?_⟩
  unfold laws_FnQuotients.f
  rw [hd, Option.bind_some, div_impl, Option.bind_some, div_spec, Option.bind_some, if_neg (by simp)]
  by_cases h : ((-9000000000000 ≤ a ∧ a ≤ 9000000000000) ∧ (-9000000000000 ≤ b ∧ b ≤ 9000000000000)) ∧ b ≠ 0 ∧ (-9000000000000 ≤ Int.tdiv (a * 1000000) b ∧ Int.tdiv (a * 1000000) b ≤ 9000000000000)
  · have hv : divV a b = (Int.tdiv (a * 1000000) b, true) := by unfold divV; rw [if_pos h]
    have h1 : divV a 1000000 = (a, true) := by
      have e : Int.tdiv (a * 1000000) 1000000 = a := Int.mul_tdiv_cancel _ (by omega)
      unfold divV
      rw [e, if_pos ⟨⟨h.1.1, by omega⟩, by omega, h.1.1⟩]
    have h2 : divV b b = (1000000, true) := by
      have e : Int.tdiv (b * 1000000) b = 1000000 := Int.mul_tdiv_cancel_left _ h.2.1
      unfold divV
      rw [e, if_pos ⟨⟨h.1.2, h.1.2⟩, h.2.1, by omega⟩]
    have hsg := tdiv_sign (a * 1000000) b h.2.1
    rw [hv]
    show laws_FnQuotients.j0 (K1 + K2 + 1) a b (Int.tdiv (a * 1000000) b) true true false = some true
    simp only [laws_FnQuotients.j0]
    rw [if_neg (by simp), div_impl, h1, Option.bind_some, div_impl, h2, Option.bind_some, div_spec, hv, Option.bind_some, if_pos rfl, if_pos (by rfl), if_pos rfl, if_pos (by rfl), if_pos rfl]
    by_cases hq : Int.tdiv (a * 1000000) b = 0
    · rw [if_pos hq, hs]; rfl
    · rw [if_neg hq]
      rcases hsg with z | z
      · exact absurd z hq
      · rw [z, show decide (a * 1000000 < 0) = decide (a < 0) from decide_eq_decide.2 (by omega), if_pos (by simp), hs]; rfl
  · have hv : divV a b = (0, false) := by unfold divV; rw [if_neg h]
    rw [hv]
    show laws_FnQuotients.j0 (K1 + K2 + 1) a b 0 false false true = some true
    simp only [laws_FnQuotients.j0]
    rw [if_pos (by trivial), if_pos (by rfl), if_pos (by trivial), hs]; rfl

end Go.Proofs.YtegllcjlngdijaaDoor.Pure
