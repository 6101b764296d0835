/- For every text s, the program's IsWord and the reference's IsWord answer alike. No condition beyond the size that any string has. -/
import Derived.Test.YtbaiaflphdkecabPFnExactIsWordx1
namespace Go.Proofs.Ytbaiaflphdkecab.Pure
open Go.RowKit Go.Proofs.Ytbaiaflphdkecab.PFnExactIsWord Go.Proofs.YtbaiaflphdkecabW.PrintWords Go.Proofs.YtbaiaflphdkecabW.PrintLast

theorem wrap_up {i : Int} (h0 : 0 ≤ i) (h : i < 9223372036854775807) : wrap64 (i + 1) = i + 1 := by
  unfold wrap64
  omega

/-- The two searches go side by side. -/
theorem side (x : ByteArray) (w : List ByteArray) (hw : w.length < 1000) (d : Nat) : ∀ (k : Nat) (i : Int), 0 ≤ i → i + d = w.length → d < k →
    ∃ r, slices_Index_string_string.l0 k w x (w.length : Int) i = some r ∧ spec_IsWord.l0 k x w i = some (decide (r ≥ 0)) := by
  induction d with
  | zero =>
    intro k i h0 hd hk
    obtain ⟨k, rfl⟩ : ∃ m, k = m + 1 := ⟨k - 1, by omega⟩
    exact ⟨-1, by simp only [slices_Index_string_string.l0]; rw [if_neg (by omega)], by simp only [spec_IsWord.l0]; rw [if_neg (by omega)]; rfl⟩
  | succ d ih =>
    intro k i h0 hd hk
    obtain ⟨k, rfl⟩ : ∃ m, k = m + 1 := ⟨k - 1, by omega⟩
    have hlt : i < (w.length : Int) := by omega
    by_cases e : x.toList = (rdOf ByteArray.empty w i).toList
    · refine ⟨i, ?_, ?_⟩
      · simp only [slices_Index_string_string.l0]; rw [if_pos hlt, if_pos h0, if_pos hlt, if_pos e]
      · simp only [spec_IsWord.l0]; rw [if_pos hlt, if_pos h0, if_pos e.symm]; simp [h0]
    · obtain ⟨r, h1, h2⟩ := ih k (i + 1) (by omega) (by omega) (by omega)
      refine ⟨r, ?_, ?_⟩
      · simp only [slices_Index_string_string.l0]; rw [if_pos hlt, if_pos h0, if_pos hlt, if_neg e, wrap_up h0 (by omega)]; exact h1
      · simp only [spec_IsWord.l0]; rw [if_pos hlt, if_pos h0, if_neg (fun z => e z.symm), wrap_up h0 (by omega)]; exact h2

theorem FnExactIsWord : laws_FnExactIsWord.Pure := by
  intro s _
  refine ⟨30, ?_⟩
  have key : ∀ w : List ByteArray, w.length = 22 → (spec_IsWord.l0 30 s w 0).bind (fun t117 => (slices_Index_string_string.l0 30 w s (w.length : Int) 0).bind fun t109 => if (decide (t109 ≥ 0) != t117) = true then some false else some true) = some true := by
    intro w hw
    obtain ⟨r, h1, h2⟩ := side s w (by omega) w.length 30 0 (by omega) (by omega) (by omega)
    rw [h1, h2]
    simp
  unfold laws_FnExactIsWord.f spec_IsWord.f impl_IsWord.f slices_Contains_string_string.f slices_Index_string_string.f
  by_cases hb : (s.size : Int) > 1048576
  · rw [if_pos hb]
  · rw [if_neg hb]
    unfold spec_l3words.f impl_keywords.f
    simp only [Option.bind_some]
    generalize hW : ([(⟨#[66, 69, 71, 73, 78]⟩ : ByteArray), _, _, _, _, _, _, _, _, _, _, _, _, _, _, _, _, _, _, _, _, _] : List ByteArray) = W
    have hl : W.length = 22 := by subst hW; rfl
    have := key W hl
    simpa [Option.bind_assoc] using this

end Go.Proofs.Ytbaiaflphdkecab.Pure
