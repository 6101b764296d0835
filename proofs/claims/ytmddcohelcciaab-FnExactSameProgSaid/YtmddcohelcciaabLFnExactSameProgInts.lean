/- Rows of numbers: their copies, their sameness. -/
import Derived.Test.YtmddcohelcciaabPFnExactSameProgx
import Derived.Test.YtmddcohelcciaabXLem
namespace Go.Proofs.Ytmddcohelcciaab.PFnExactSameProg
set_option linter.unusedVariables false
set_option linter.unusedSimpArgs false
open Go.RowKit Go.Proofs.YtmddcohelcciaabW.PrintWords Go.Proofs.YtmddcohelcciaabW.PrintLast Go.Proofs.YtmddcohelcciaabW.PrintMore Go.Proofs.Ytmddcohelcciaab.XL

theorem rd_get (L : List Int) (i : Nat) (h : i < L.length) : rd L (i : Int) = L[i] := by
  unfold rd
  rw [Int.toNat_natCast, List.getD_eq_getElem?_getD, List.getElem?_eq_getElem h]
  rfl
theorem to_ints (L : List Int) (hl : L.length ≤ 1048576) : Ev (fun k => laws_toIntS.f k L) L := by
  have loop : ∀ (d i : Nat) (M : List Int), i + d = L.length → M.length = L.length → M.take i = L.take i → Ev (fun k => laws_toIntS.l0 k L M (i : Int)) L := by
    intro d
    induction d with
    | zero =>
      intro i M h hM ht
      have e : M = L := by
        rw [List.take_of_length_le (by omega), List.take_of_length_le (by omega)] at ht
        exact ht
      subst e
      refine Ev.step (f := fun _ => some _) (fun k => ?_) (Ev.now _)
      simp only [laws_toIntS.l0]
      rw [if_neg (by omega)]
    | succ d ih =>
      intro i M h hM ht
      have hi : i < L.length := by omega
      have hset : (M.set i L[i]).take (i + 1) = L.take (i + 1) := by
        rw [List.take_succ_eq_append_getElem (by rw [List.length_set]; omega), List.take_set_of_le (Nat.le_refl _), List.getElem_set_self, ht, List.take_succ_eq_append_getElem hi]
      refine Ev.step (fun k => ?_) (ih (i + 1) (M.set i L[i]) (by omega) (by rw [List.length_set]; exact hM) hset)
      simp only [laws_toIntS.l0]
      rw [if_pos (by omega), if_pos (by omega), if_pos (by omega), rd_get L i hi, wrap_nat1 i (by omega)]
      rfl
  refine Ev.congr (fun k => ?_) (loop L.length 0 (List.replicate L.length 0) (by omega) (by simp) (by simp))
  unfold laws_toIntS.f
  rw [if_pos (by omega), if_pos (by simp; omega)]
  rfl
theorem eq_ints (L : List Int) (hL : L.length ≤ 1048576) : Ev (fun k => laws_eqIntS.f k L L) true := by
  have loop : ∀ (d i : Nat), i + d = L.length → Ev (fun k => laws_eqIntS.l0 k L L (i : Int)) true := by
    intro d
    induction d with
    | zero =>
      intro i h
      refine Ev.step (f := fun _ => some _) (fun k => ?_) (Ev.now _)
      simp only [laws_eqIntS.l0]
      rw [if_neg (by omega)]
    | succ d ih =>
      intro i h
      refine Ev.step (fun k => ?_) (ih (i + 1) (by omega))
      simp only [laws_eqIntS.l0]
      rw [if_pos (by omega), if_pos (by omega), if_pos (by omega), if_pos trivial, wrap_nat1 i (by omega)]
  refine Ev.congr (fun k => ?_) (loop L.length 0 (by omega))
  unfold laws_eqIntS.f
  rw [if_pos rfl]
  rfl
end Go.Proofs.Ytmddcohelcciaab.PFnExactSameProg
