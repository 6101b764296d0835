/- For every cell the program's ToStr returns what the reference's ToStr returns; no condition beyond the tied tables. -/
import Derived.Test.YtlemhidllcbadaaDoorPFnExactToStrx5
import Derived.Test.YtlemhidllcbadaaDoorXLem
import Derived.Test.YtlemhidllcbadaaDoorXBa
import Derived.Test.YtlemhidllcbadaaDoorLFnExactToStrReadDec
import Derived.Test.YtlemhidllcbadaaDoorLFnExactToStrLooksNum
import Derived.Test.YtlemhidllcbadaaDoorLFnExactToStrCell
import Derived.Test.YtlemhidllcbadaaDoorLFnExactToStrDecText
namespace Go.Proofs.YtlemhidllcbadaaDoor.Pure
set_option linter.unusedVariables false
set_option linter.unusedSimpArgs false
open Go.RowKit Go.Proofs.YtlemhidllcbadaaDoor.PFnExactToStr Go.Proofs.YtlemhidllcbadaaDoorW.PrintWords Go.Proofs.YtlemhidllcbadaaDoorW.PrintLast Go.Proofs.YtlemhidllcbadaaDoorW.PrintMore Go.Proofs.YtlemhidllcbadaaDoor.XL

def strV (t b : Int) (s : ByteArray) : ByteArray := if cellOkV t b s = true then (if t = 1 then ba (decText b) else s) else ba []
theorem decOk_of (b : Int) (h : decOkV b = true) : -9000000000000 ≤ b ∧ b ≤ 9000000000000 := by
  unfold decOkV at h
  simpa using h
theorem cell_one {t b : Int} {s : ByteArray} (ht : t = 1) (h : cellOkV t b s = true) : -9000000000000 ≤ b ∧ b ≤ 9000000000000 := by
  subst ht
  unfold cellOkV at h
  split at h
  · cases h
  · rw [if_neg (by omega), if_pos rfl] at h
    split at h
    · exact decOk_of b h
    · cases h
theorem spec_str (t b : Int) (s : ByteArray) (hs : s.size ≤ 140737488351232) : Ev (fun k => spec_ToStr.f k t b s) (strV t b s) := by
  unfold strV
  have hc := spec_cell t b s hs
  by_cases h : cellOkV t b s = true
  · rw [if_pos h]
    rw [h] at hc
    by_cases ht : t = 1
    · rw [if_pos ht]
      refine ev_use0 hc (spec_text (cell_one ht h)) (fun k g1 g2 => ?_)
      unfold spec_ToStr.f
      rw [g1, Option.bind_some, if_pos (rfl : true = true), if_pos ht, g2]; rfl
    · rw [if_neg ht]
      refine ev_use1 hc (fun k g1 => ?_)
      unfold spec_ToStr.f
      rw [g1, Option.bind_some, if_pos (rfl : true = true), if_neg ht]
  · rw [if_neg h]
    rw [Bool.eq_false_iff.2 h] at hc
    refine ev_use1 hc (fun k g1 => ?_)
    unfold spec_ToStr.f
    rw [g1]; rfl
theorem impl_str (t b : Int) (s : ByteArray) (hs : s.size ≤ 140737488351232) : Ev (fun k => impl_ToStr.f k t b s) (strV t b s) := by
  unfold strV
  have hc := impl_cell t b s hs
  by_cases h : cellOkV t b s = true
  · rw [if_pos h]
    rw [h] at hc
    by_cases ht : t = 1
    · rw [if_pos ht]
      refine ev_use0 hc (impl_text (cell_one ht h)) (fun k g1 g2 => ?_)
      unfold impl_ToStr.f impl_Cell_str.f
      rw [g1, Option.bind_some, if_pos (rfl : true = true), if_pos ht, g2]; rfl
    · rw [if_neg ht]
      refine ev_use1 hc (fun k g1 => ?_)
      unfold impl_ToStr.f impl_Cell_str.f
      rw [g1, Option.bind_some, if_pos (rfl : true = true), if_neg ht]; rfl
  · rw [if_neg h]
    rw [Bool.eq_false_iff.2 h] at hc
    refine ev_use1 hc (fun k g1 => ?_)
    unfold impl_ToStr.f
    rw [g1]; rfl

theorem FnExactToStr : laws_FnExactToStr.Pure := by
  intro t b s _ _ hm
  obtain ⟨r, e, hr⟩ := sz_small t b s 1048576 hm (by omega) (by omega)
  have key : Ev (fun k => laws_FnExactToStr.f k t b s) true := by
    by_cases hb : r < 0
    · exact Ev.congr (f := fun _ => some true) (fun k => by unfold laws_FnExactToStr.f; rw [e, Option.bind_some, if_pos hb]) (Ev.now _)
    · have hs2 : s.size ≤ 140737488351232 := by have := (hr hb).1; omega
      refine ev_use0 (spec_str t b s hs2) (impl_str t b s hs2) (fun k g1 g2 => ?_)
      unfold laws_FnExactToStr.f laws_toCell.f
      rw [e, Option.bind_some, if_neg hb]
      simp only [Option.bind_some]
      rw [g1, g2]
      simp
  exact key.rounds

end Go.Proofs.YtlemhidllcbadaaDoor.Pure
