/- Signs of quotients and rests. -/
import Derived.Test.YtegllcjlngdijaaDoorXLem
namespace Go.Proofs.YtegllcjlngdijaaDoor.XL
set_option linter.unusedVariables false
theorem tdiv_sign (n b : Int) (hb : b ≠ 0) : Int.tdiv n b = 0 ∨ (decide (Int.tdiv n b < 0) = (decide (n < 0) != decide (b < 0))) := by
  by_cases h0 : Int.tdiv n b = 0
  · exact .inl h0
  · right
    rcases Int.le_total 0 n with hn | hn <;> rcases Int.le_total 0 b with hb' | hb'
    · have := Int.tdiv_nonneg hn hb'
      rw [decide_eq_false (by omega), decide_eq_false (by omega), decide_eq_false (by omega)]; rfl
    · have := Int.tdiv_nonpos_of_nonneg_of_nonpos hn hb'
      rw [decide_eq_true (by omega), decide_eq_false (by omega), decide_eq_true (by omega)]; rfl
    · have h1 := Int.tdiv_nonneg (a := -n) (by omega) hb'
      rw [Int.neg_tdiv] at h1
      have : n ≠ 0 := fun z => h0 (by rw [z]; exact Int.zero_tdiv _)
      rw [decide_eq_true (by omega), decide_eq_true (by omega), decide_eq_false (by omega)]; rfl
    · have h1 := Int.tdiv_nonneg (a := -n) (b := -b) (by omega) (by omega)
      rw [Int.neg_tdiv, Int.tdiv_neg, Int.neg_neg] at h1
      have : n ≠ 0 := fun z => h0 (by rw [z]; exact Int.zero_tdiv _)
      rw [decide_eq_false (by omega), decide_eq_true (by omega), decide_eq_true (by omega)]; rfl
theorem tmod_law (a b c : Int) (hb : b ≠ 0) (hc : c = b ∨ c = -b) (h0 : 0 < c) : Int.tmod a b < c ∧ Int.tmod a b > -c ∧ (Int.tmod a b = 0 ∨ decide (Int.tmod a b < 0) = decide (a < 0)) ∧ Int.tmod (a - Int.tmod a b) c = 0 := by
  have e : Int.tmod a b = Int.tmod a c := by
    rcases hc with rfl | rfl
    · rfl
    · rw [Int.tmod_neg]
  rw [e]
  have h1 : Int.tmod (a - Int.tmod a c) c = 0 := by
    have : a - Int.tmod a c = c * Int.tdiv a c := by have := Int.mul_tdiv_add_tmod a c; omega
    rw [this]
    exact Int.mul_tmod_right _ _
  rcases Int.le_total 0 a with ha | ha
  · have h2 := Int.tmod_nonneg c ha
    have h3 := Int.tmod_lt_of_pos a h0
    refine ⟨h3, by omega, .inr ?_, h1⟩
    rw [decide_eq_false (by omega), decide_eq_false (by omega)]
  · have h2 := Int.tmod_nonneg (a := -a) c (by omega)
    have h3 := Int.tmod_lt_of_pos (-a) h0
    rw [Int.neg_tmod] at h2 h3
    refine ⟨by omega, by omega, ?_, h1⟩
    by_cases hz : Int.tmod a c = 0
    · exact .inl hz
    · right
      have : a ≠ 0 := fun z => hz (by rw [z]; exact Int.zero_tmod _)
      rw [decide_eq_true (by omega), decide_eq_true (by omega)]
theorem tdiv_bound (n b : Int) : (Int.tdiv n b).natAbs ≤ n.natAbs := by
  rw [Int.natAbs_tdiv]
  exact Nat.div_le_self _ _
end Go.Proofs.YtegllcjlngdijaaDoor.XL
