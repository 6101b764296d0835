/- For every draw: where a drawn text is put among drawn fields, the program answers as the reference; a field that is put is there, the others stay, and what is between is empty; no condition beyond the tied tables. -/
import Derived.Test.YtlemhidllcbadaaDoorPFnPutFieldsx4
import Derived.Test.YtlemhidllcbadaaDoorXLem
import Derived.Test.YtlemhidllcbadaaDoorXBa
import Derived.Test.YtlemhidllcbadaaDoorXJoin
import Derived.Test.YtlemhidllcbadaaDoorLFnPutFieldsCur
import Derived.Test.YtlemhidllcbadaaDoorLFnPutFieldsOf
import Derived.Test.YtlemhidllcbadaaDoorLFnPutFieldsSame
import Derived.Test.YtlemhidllcbadaaDoorLFnPutFieldsSize
import Derived.Test.YtlemhidllcbadaaDoorLFnPutFieldsPut
import Derived.Test.YtlemhidllcbadaaDoorLFnPutFieldsDrawPut
namespace Go.Proofs.YtlemhidllcbadaaDoor.Pure
set_option linter.unusedVariables false
set_option linter.unusedSimpArgs false
open Go.RowKit Go.Proofs.YtlemhidllcbadaaDoor.PFnPutFields Go.Proofs.YtlemhidllcbadaaDoorW.PrintWords Go.Proofs.YtlemhidllcbadaaDoorW.PrintLast Go.Proofs.YtlemhidllcbadaaDoorW.PrintMore Go.Proofs.YtlemhidllcbadaaDoor.XL

section
variable {L X : List ByteArray} {n : Nat} (h1 : 1 ≤ n) (h50 : n ≤ 50) (hX : X.length ≤ 50)
  (hsame : ∀ k, (hk : k < X.length) → k ≠ n - 1 → (hk2 : k < L.length) → X[k] = L[k]) (hempty : ∀ k, (hk : k < X.length) → k ≠ n - 1 → L.length ≤ k → X[k] = (⟨#[]⟩ : ByteArray))
include h1 h50 hX hsame hempty
theorem put_loop : ∀ (d k : Nat), k + d = X.length → Ev (fun j => laws_FnPutFields.l0 j L (n : Int) X (k : Int)) true := by
  intro d
  induction d with
  | zero =>
    intro k h
    refine ev_use alive (Ev.now (0 : Nat)) (fun j g1 _ => ?_)
    simp only [laws_FnPutFields.l0]
    rw [if_neg (by omega), if_pos (by omega), g1]
    rfl
  | succ d ih =>
    intro k h
    have hk : k < X.length := by omega
    refine Ev.step (fun j => ?_) (ih (k + 1) (by omega))
    simp only [laws_FnPutFields.l0]
    rw [if_pos (by omega), wrap_id (n := (n : Int) - 1) (by omega) (by omega), wrap_nat1 k (by omega)]
    by_cases hkn : (k : Int) = (n : Int) - 1
    · rw [if_pos hkn]
      split <;> rfl
    · rw [if_neg hkn]
      by_cases hkl : (k : Int) < (L.length : Int)
      · have hkl2 : k < L.length := by omega
        rw [if_pos hkl, if_pos (by omega), rd_str X k hk, rd_str L k hkl2, if_pos (by rw [hsame k hk (by omega) hkl2]), if_neg (by omega)]
      · rw [if_neg hkl, if_pos (by omega), if_pos (by omega), rd_str X k hk, if_pos (by rw [hempty k hk (by omega) (by omega), toList_data])]
end
theorem FnPutFields : laws_FnPutFields.Pure := by
  intro b h1 h2 h3
  obtain ⟨L, i, s, ⟨K1, e1⟩, q1, q2, q3, q4, q5⟩ := draw_put (b := b) (by omega)
  obtain ⟨K2, e2⟩ := impl_put (L := L) (s := s) (by omega) i (by omega)
  obtain ⟨K3, e3⟩ := spec_put (L := L) (s := s) (by omega) i (by omega)
  have hbase : ∀ k, K1 + K2 + K3 ≤ k → laws_FnPutFields.f k b = laws_FnPutFields.j0 k L i s (putV L i s).1 (putV L i s).2 (putV L i s).2 (!(putV L i s).2) := fun k hk => by
    unfold laws_FnPutFields.f
    rw [(show spec_DrawPutField.f k b = _ from e1 k (by omega))]
    simp only [Option.bind_some]
    rw [(show impl_PutField.f k L i s = _ from e2 k (by omega))]
    simp only [Option.bind_some]
    rw [(show spec_PutField.f k L i s = _ from e3 k (by omega))]
    simp only [Option.bind_some]
    rw [if_neg (by simp)]
  obtain ⟨K4, e4⟩ := alive
  have no : putV L i s = ([], false) → ∃ k, laws_FnPutFields.f k b = some true := fun hv => by
    refine ⟨K1 + K2 + K3 + K4 + 1, ?_⟩
    rw [hbase _ (by omega), hv]
    simp only [laws_FnPutFields.j0]
    rw [if_pos (by rfl), if_pos (by rfl), if_pos (by rfl), (show laws_lines.f _ = _ from e4 (K1 + K2 + K3 + K4) (by omega))]
    rfl
  by_cases hi : (1 ≤ i ∧ i ≤ 50) ∧ L.length ≤ 50
  · by_cases hj : (joinV (put L i.toNat s)).length ≤ 500
    · obtain ⟨n, rfl⟩ := Int.eq_ofNat_of_zero_le (show 0 ≤ i by omega)
      rw [show ((n : Int)).toNat = n from Int.toNat_natCast n] at hj
      have hv : putV L (n : Int) s = (put L n s, true) := by
        unfold putV
        rw [if_pos hi, show ((n : Int)).toNat = n from Int.toNat_natCast n, if_pos hj]
      have hlen := put_length L n s
      have hlX : (put L n s).length ≤ 50 := by omega
      have hn1 : n - 1 < (put L n s).length := by omega
      have hat : (put L n s)[n - 1] = s := by
        simp only [put, List.getElem_set_self]
      have hsame : ∀ k, (hk : k < (put L n s).length) → k ≠ n - 1 → (hk2 : k < L.length) → (put L n s)[k] = L[k] := fun k hk hne hk2 => by
        simp only [put]
        rw [List.getElem_set_ne (by omega), List.getElem_append_left hk2]
      have hempty : ∀ k, (hk : k < (put L n s).length) → k ≠ n - 1 → L.length ≤ k → (put L n s)[k] = (⟨#[]⟩ : ByteArray) := fun k hk hne hk2 => by
        simp only [put]
        rw [List.getElem_set_ne (by omega), List.getElem_append_right hk2, List.getElem_replicate]
      obtain ⟨K5, e5⟩ := put_loop (L := L) (X := put L n s) (n := n) (by omega) (by omega) hlX hsame hempty (put L n s).length 0 (by omega)
      refine ⟨K1 + K2 + K3 + K4 + K5 + 2, ?_⟩
      rw [hbase _ (by omega), hv]
      simp only [laws_FnPutFields.j0, laws_FnPutFields.j1]
      rw [if_neg (by simp), if_neg (by omega), if_neg (by omega), wrap_id (n := (n : Int) - 1) (by omega) (by omega), if_pos (by omega), if_pos (by omega), show (n : Int) - 1 = ((n - 1 : Nat) : Int) by omega, rd_str (put L n s) (n - 1) hn1, hat, if_neg (by simp)]
      exact e5 (K1 + K2 + K3 + K4 + K5) (by omega)
    · exact no (by unfold putV; rw [if_pos hi, if_neg hj])
  · exact no (by unfold putV; rw [if_neg hi])

end Go.Proofs.YtlemhidllcbadaaDoor.Pure
