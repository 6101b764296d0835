/- IsWord: the program's and the reference's searches go side by side. -/
import Derived.Test.YtmddcohelcciaacDoorXLem
import Derived.Test.YtmddcohelcciaacDoorPFnExactLexx
namespace Go.Proofs.YtmddcohelcciaacDoor.PFnExactLex
set_option linter.unusedVariables false
set_option linter.unusedSimpArgs false
open Go.RowKit Go.Proofs.YtmddcohelcciaacDoorW.PrintWords Go.Proofs.YtmddcohelcciaacDoorW.PrintLast Go.Proofs.YtmddcohelcciaacDoorW.PrintMore Go.Proofs.YtmddcohelcciaacDoor.XL

theorem isWord_side (x : ByteArray) (w : List ByteArray) (hw : w.length < 1000) (d : Nat) : ∀ (k : Nat) (i : Int), 0 ≤ i → i + d = w.length → d < k →
    ∃ r, (∀ q, k ≤ q → slices_Index_string_string.l0 q w x (w.length : Int) i = some r) ∧ (∀ q, k ≤ q → spec_IsWord.l0 q x w i = some (decide (r ≥ 0))) := by
  induction d with
  | zero =>
    intro k i h0 hd hk
    refine ⟨-1, fun q hq => ?_, fun q hq => ?_⟩
    · obtain ⟨q, rfl⟩ : ∃ m, q = m + 1 := ⟨q - 1, by omega⟩
      simp only [slices_Index_string_string.l0]; rw [if_neg (by omega)]
    · obtain ⟨q, rfl⟩ : ∃ m, q = m + 1 := ⟨q - 1, by omega⟩
      simp only [spec_IsWord.l0]; rw [if_neg (by omega)]; rfl
  | succ d ih =>
    intro k i h0 hd hk
    have hlt : i < (w.length : Int) := by omega
    by_cases e : x.toList = (rdOf ByteArray.empty w i).toList
    · refine ⟨i, fun q hq => ?_, fun q hq => ?_⟩
      · obtain ⟨q, rfl⟩ : ∃ m, q = m + 1 := ⟨q - 1, by omega⟩
        simp only [slices_Index_string_string.l0]; rw [if_pos hlt, if_pos h0, if_pos hlt, if_pos e]
      · obtain ⟨q, rfl⟩ : ∃ m, q = m + 1 := ⟨q - 1, by omega⟩
        simp only [spec_IsWord.l0]; rw [if_pos hlt, if_pos h0, if_pos e.symm]; simp [h0]
    · obtain ⟨r, h1, h2⟩ := ih (k - 1) (i + 1) (by omega) (by omega) (by omega)
      refine ⟨r, fun q hq => ?_, fun q hq => ?_⟩
      · obtain ⟨q, rfl⟩ : ∃ m, q = m + 1 := ⟨q - 1, by omega⟩
        simp only [slices_Index_string_string.l0]; rw [if_pos hlt, if_pos h0, if_pos hlt, if_neg e, wrap_id (by omega) (by omega)]; exact h1 q (by omega)
      · obtain ⟨q, rfl⟩ : ∃ m, q = m + 1 := ⟨q - 1, by omega⟩
        simp only [spec_IsWord.l0]; rw [if_pos hlt, if_pos h0, if_neg (fun z => e z.symm), wrap_id (by omega) (by omega)]; exact h2 q (by omega)

theorem isWord_same (x : ByteArray) : ∃ b, Ev (fun k => spec_IsWord.f k x) b ∧ Ev (fun k => impl_IsWord.f k x) b := by
  have key : ∀ w : List ByteArray, w.length = 22 → spec_l3words.f = some w → impl_keywords.f = some w → ∃ b, Ev (fun k => spec_IsWord.f k x) b ∧ Ev (fun k => impl_IsWord.f k x) b := by
    intro w hw e1 e2
    obtain ⟨r, h1, h2⟩ := isWord_side x w (by omega) w.length (w.length + 1) 0 (by omega) (by omega) (by omega)
    refine ⟨decide (r ≥ 0), ⟨w.length + 1, fun k hk => ?_⟩, ⟨w.length + 1, fun k hk => ?_⟩⟩
    · show spec_IsWord.f k x = _
      unfold spec_IsWord.f
      rw [e1, Option.bind_some]
      exact h2 k hk
    · show impl_IsWord.f k x = _
      unfold impl_IsWord.f slices_Contains_string_string.f slices_Index_string_string.f
      rw [e2, Option.bind_some, h1 k hk]
      rfl
  exact key _ rfl rfl rfl
end Go.Proofs.YtmddcohelcciaacDoor.PFnExactLex
