/- CellOk, ToNum, Truth: what they come to, in the program and in the reference. -/
import Derived.Test.YtlemhidllcbadaaXLem
import Derived.Test.YtlemhidllcbadaaPFnExactArithx
import Derived.Test.YtlemhidllcbadaaLFnExactArithReadDec
import Derived.Test.YtlemhidllcbadaaLFnExactArithLooksNum
namespace Go.Proofs.Ytlemhidllcbadaa.PFnExactArith
set_option linter.unusedVariables false
set_option linter.unusedSimpArgs false
open Go.RowKit Go.Proofs.YtlemhidllcbadaaW.PrintWords Go.Proofs.YtlemhidllcbadaaW.PrintLast Go.Proofs.YtlemhidllcbadaaW.PrintMore Go.Proofs.Ytlemhidllcbadaa.XL

def decOkV (b : Int) : Bool := decide (-9000000000000 ≤ b) && decide (b ≤ 9000000000000)
theorem spec_decOk (b : Int) : spec_DecOk.f b = some (decOkV b) := by
  unfold spec_DecOk.f decOkV
  by_cases h : b ≥ -9000000000000
  · rw [if_pos h]; simp [show -9000000000000 ≤ b from h]
  · rw [if_neg h]; simp [show ¬ -9000000000000 ≤ b from h]
theorem impl_decOk (b : Int) : impl_DecOk.f b = some (decOkV b) := by
  unfold impl_DecOk.f impl_between.f decOkV
  by_cases h : b ≥ -9000000000000
  · rw [if_pos h]; simp [show -9000000000000 ≤ b from h]
  · rw [if_neg h]; simp [show ¬ -9000000000000 ≤ b from h]
def cellOkV (t b : Int) (s : ByteArray) : Bool :=
  if (s.size : Int) > 500 then false else if t = 0 then (if s.toList = [] then b == 0 else false) else if t = 1 then (if s.toList = [] then decOkV b else false) else if t = 2 then b == 0 else if t = 3 then (if looks s = true then b == (readV s).1 else false) else false

theorem spec_cell (t b : Int) (s : ByteArray) (hs : s.size ≤ 140737488351232) : Ev (fun k => spec_CellOk.f k t b s) (cellOkV t b s) := by
  refine ev_use0 (spec_looks s hs) (spec_read s hs) (fun k g1 g2 => ?_)
  unfold spec_CellOk.f cellOkV
  rw [g1, g2, spec_decOk]
  simp only [Option.bind_some]
  by_cases h : (s.size : Int) > 500
  · rw [if_pos h, if_pos h]
  · rw [if_neg h, if_neg h]
    by_cases h0 : t = 0
    · rw [if_pos h0, if_pos h0]
      by_cases e : s.toList = []
      · rw [if_pos e, if_pos e]
      · rw [if_neg e, if_neg e]
    · rw [if_neg h0, if_neg h0]
      by_cases h1 : t = 1
      · rw [if_pos h1, if_pos h1]
        by_cases e : s.toList = []
        · rw [if_pos e, if_pos e]
        · rw [if_neg e, if_neg e]
      · rw [if_neg h1, if_neg h1]
        by_cases h2 : t = 2
        · rw [if_pos h2, if_pos h2]
        · rw [if_neg h2, if_neg h2]
          by_cases h3 : t = 3
          · rw [if_pos h3, if_pos h3]
            cases looks s <;> rfl
          · rw [if_neg h3, if_neg h3]
theorem impl_cell (t b : Int) (s : ByteArray) (hs : s.size ≤ 140737488351232) : Ev (fun k => impl_CellOk.f k t b s) (cellOkV t b s) := by
  refine ev_use0 (impl_looks s hs) (impl_read s hs) (fun k g1 g2 => ?_)
  unfold impl_CellOk.f cellOkV
  rw [g1, g2, impl_decOk]
  simp only [Option.bind_some]
  have hn : (s.size : Int) > 500 → ¬ s.toList = [] := fun h z => by
    have := (toList_nil s).1 z
    omega
  by_cases h : (s.size : Int) > 500
  · rw [if_pos h, if_neg (hn h), if_neg (hn h), if_neg (show ¬ (s.size : Int) ≤ 500 by omega), if_neg (show ¬ (s.size : Int) ≤ 500 by omega)]
    by_cases h0 : t = 0
    · rw [if_pos h0]
    · rw [if_neg h0]
      by_cases h1 : t = 1
      · rw [if_pos h1]
      · rw [if_neg h1]
        by_cases h2 : t = 2
        · rw [if_pos h2]
        · rw [if_neg h2]
          by_cases h3 : t = 3
          · rw [if_pos h3]
          · rw [if_neg h3]
  · rw [if_neg h, if_pos (show (s.size : Int) ≤ 500 by omega), if_pos (show (s.size : Int) ≤ 500 by omega)]
    by_cases h0 : t = 0
    · rw [if_pos h0, if_pos h0]
      by_cases e : s.toList = []
      · rw [if_pos e, if_pos e]
      · rw [if_neg e, if_neg e]
    · rw [if_neg h0, if_neg h0]
      by_cases h1 : t = 1
      · rw [if_pos h1, if_pos h1]
        by_cases e : s.toList = []
        · rw [if_pos e, if_pos e]
        · rw [if_neg e, if_neg e]
      · rw [if_neg h1, if_neg h1]
        by_cases h2 : t = 2
        · rw [if_pos h2, if_pos h2]
        · rw [if_neg h2, if_neg h2]
          by_cases h3 : t = 3
          · rw [if_pos h3, if_pos h3]
            cases looks s <;> rfl
          · rw [if_neg h3, if_neg h3]
theorem sz_small (t b : Int) (s : ByteArray) (l : Int) (h : s.size ≤ maxLen) (hl : l ≤ 1048576) (h0 : 0 ≤ l) : ∃ r, laws_szCell.f t b s l = some r ∧ (¬ r < 0 → s.size ≤ 1048576 ∧ r = l - s.size ∧ 0 ≤ r) := by
  unfold maxLen at h
  unfold laws_szCell.f
  rw [wrap_id (by omega) (by omega)]
  by_cases hn : l - (s.size : Int) < 0
  · rw [if_pos hn]; exact ⟨-1, rfl, fun h => absurd (by omega) h⟩
  · rw [if_neg hn]; exact ⟨_, rfl, fun _ => ⟨by omega, rfl, by omega⟩⟩
end Go.Proofs.Ytlemhidllcbadaa.PFnExactArith
