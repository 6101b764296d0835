/- Lines: the pieces between newlines, without an empty last one. -/
import Derived.Test.YtegllcjlngdijaaDoorXSplit
import Derived.Test.YtegllcjlngdijaaDoorPFnExactLinesx
namespace Go.Proofs.YtegllcjlngdijaaDoor.PFnExactLines
set_option linter.unusedVariables false
set_option linter.unusedSimpArgs false
open Go.RowKit Go.Proofs.YtegllcjlngdijaaDoorW.PrintWords Go.Proofs.YtegllcjlngdijaaDoorW.PrintLast Go.Proofs.YtegllcjlngdijaaDoorW.PrintMore Go.Proofs.YtegllcjlngdijaaDoor.XL

def nl : ByteArray := ⟨#[10]⟩
theorem lines_eq (s : ByteArray) (hs : s.size ≤ 3000) : ∃ P q, spl s nl s.size 0 0 = P ++ [(q, s.size)] ∧ q ≤ s.size ∧ (∀ j, q ≤ j → hit s nl j = false) ∧
    impl_Lines.f s = some (if q = s.size then P.map (exP s) else (P ++ [(q, s.size)]).map (exP s)) ∧ P.length ≤ s.size := by
  have h1 : 1 ≤ nl.size := by decide
  obtain ⟨P, q, e, hq, hno⟩ := spl_last s nl h1 s.size 0 0 (Nat.le_refl _) (Nat.zero_le _) (fun j h2 h3 => by omega) (by omega)
  have hlen := spl_length s nl h1 s.size 0 0
  rw [e, List.length_append, List.length_singleton] at hlen
  refine ⟨P, q, e, hq, hno, ?_, by omega⟩
  unfold impl_Lines.f impl_lines.f strings_Split.f
  rw [if_neg (by omega), if_pos (show s.size < 4294967281 ∧ 1 ≤ (⟨#[10]⟩ : ByteArray).size from ⟨by omega, by decide⟩)]
  simp only [Option.bind_some]
  rw [show (⟨#[10]⟩ : ByteArray) = nl from rfl, split_eq s nl h1, e, List.map_append, List.map_singleton]
  have hn : (P.map (exP s) ++ [exP s (q, s.size)]).length = P.length + 1 := by simp
  rw [hn, show wrap64 (((P.length + 1 : Nat) : Int) - 1) = (P.length : Int) by rw [wrap_id (by omega) (by omega)]; omega]
  rw [if_pos (by omega), if_pos (by omega), rd_str _ P.length (by rw [hn]; omega)]
  have hlast : (P.map (exP s) ++ [exP s (q, s.size)])[P.length]'(by rw [hn]; omega) = exP s (q, s.size) := by
    rw [List.getElem_append_right (by simp)]
    simp
  rw [hlast]
  have hz : (exP s (q, s.size)).size = s.size - q := by unfold exP; rw [size_extract]; omega
  by_cases hqs : q = s.size
  · have he : (exP s (q, s.size)).toList = [] := by
      rw [toList_data]
      apply List.eq_nil_of_length_eq_zero
      rw [data_size]; omega
    rw [if_pos he, if_pos (by omega), if_pos hqs]
    simp only [Int.toNat_natCast]
    rw [List.take_left' (by simp)]
    rfl
  · have he : ¬ (exP s (q, s.size)).toList = [] := fun z => by
      have : (exP s (q, s.size)).data.toList.length = 0 := by rw [← toList_data, z]; rfl
      rw [data_size] at this
      omega
    rw [if_neg he, if_neg hqs]
    rfl
end Go.Proofs.YtegllcjlngdijaaDoor.PFnExactLines
