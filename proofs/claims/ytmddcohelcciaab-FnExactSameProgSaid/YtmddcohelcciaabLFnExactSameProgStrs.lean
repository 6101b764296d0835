/- Rows of texts: their weight, and their copies. -/
import Derived.Test.YtmddcohelcciaabXLem
import Derived.Test.YtmddcohelcciaabPFnExactSameProgx
namespace Go.Proofs.Ytmddcohelcciaab.PFnExactSameProg
set_option linter.unusedVariables false
set_option linter.unusedSimpArgs false
open Go.RowKit Go.Proofs.YtmddcohelcciaabW.PrintWords Go.Proofs.YtmddcohelcciaabW.PrintLast Go.Proofs.YtmddcohelcciaabW.PrintMore Go.Proofs.Ytmddcohelcciaab.XL

theorem rd_str (L : List ByteArray) (i : Nat) (h : i < L.length) : rdOf ByteArray.empty L (i : Int) = L[i] := by
  unfold rdOf
  rw [Int.toNat_natCast, List.getD_eq_getElem?_getD, List.getElem?_eq_getElem h]
  rfl
def sumS (L : List ByteArray) : Nat := (L.map ByteArray.size).sum
theorem sumS_drop (L : List ByteArray) (i : Nat) (h : i < L.length) : sumS (L.drop i) = L[i].size + sumS (L.drop (i + 1)) := by
  unfold sumS
  rw [List.drop_eq_getElem_cons h, List.map_cons, List.sum_cons]
theorem sz_strs (L : List ByteArray) (hl : L.length ≤ 9223372036854775807) (hx : ∀ x ∈ L, x.size ≤ maxLen) (left : Int) (h0 : 0 ≤ left) (h1 : left ≤ 1048576) :
    ∃ r, Ev (fun k => laws_szStringS.f k L left) r ∧ (¬ r < 0 → r = left - (L.length : Int) - (sumS L : Nat)) ∧ r ≤ 1048576 := by
  unfold maxLen at hx
  have loop : ∀ (d i : Nat) (v : Int), i + d = L.length → 0 ≤ v → v ≤ 1048576 → ∃ r, Ev (fun k => laws_szStringS.l0 k L v (i : Int)) r ∧ (¬ r < 0 → r = v - (sumS (L.drop i) : Nat)) ∧ r ≤ 1048576 := by
    intro d
    induction d with
    | zero =>
      intro i v h v0 v1
      refine ⟨v, Ev.step (f := fun _ => some _) (fun k => ?_) (Ev.now _), fun _ => ?_, v1⟩
      · simp only [laws_szStringS.l0]
        rw [if_neg (by omega)]
      · rw [List.drop_of_length_le (by omega)]
        simp [sumS]
    | succ d ih =>
      intro i v h v0 v1
      have hi : i < L.length := by omega
      have hs := hx L[i] (List.getElem_mem hi)
      by_cases hn : v - (L[i].size : Int) < 0
      · refine ⟨-1, Ev.step (f := fun _ => some _) (fun k => ?_) (Ev.now _), fun z => absurd (by omega) z, by omega⟩
        simp only [laws_szStringS.l0]
        rw [if_pos (by omega), if_pos (by omega), rd_str L i hi, wrap_id (by omega) (by omega), if_pos hn]
      · obtain ⟨r, e, hr, hr2⟩ := ih (i + 1) (v - (L[i].size : Int)) (by omega) (by omega) (by omega)
        refine ⟨r, Ev.step (fun k => ?_) e, fun z => ?_, hr2⟩
        · simp only [laws_szStringS.l0]
          rw [if_pos (by omega), if_pos (by omega), rd_str L i hi, wrap_id (n := v - (L[i].size : Int)) (by omega) (by omega), if_neg hn, wrap_nat1 i (by omega)]
        · rw [hr z, sumS_drop L i hi]
          omega
  by_cases hn : left - (L.length : Int) < 0
  · refine ⟨-1, ⟨0, fun k _ => ?_⟩, fun z => absurd (by omega) z, by omega⟩
    show laws_szStringS.f k L left = _
    unfold laws_szStringS.f
    rw [wrap_id (by omega) (by omega), if_pos hn]
  · obtain ⟨r, e, hr, hr2⟩ := loop L.length 0 (left - (L.length : Int)) (by omega) (by omega) (by omega)
    rw [List.drop_zero] at hr
    refine ⟨r, Ev.congr (fun k => ?_) e, hr, hr2⟩
    unfold laws_szStringS.f
    rw [wrap_id (by omega) (by omega), if_neg hn]
    rfl
theorem to_strs (L : List ByteArray) (hl : L.length ≤ 17592186044416) : Ev (fun k => laws_toStringS.f k L) L := by
  have loop : ∀ (d i : Nat) (M : List ByteArray), i + d = L.length → M.length = L.length → M.take i = L.take i → Ev (fun k => laws_toStringS.l0 k L M (i : Int)) L := by
    intro d
    induction d with
    | zero =>
      intro i M h hM ht
      have e : M = L := by
        rw [List.take_of_length_le (by omega), List.take_of_length_le (by omega)] at ht
        exact ht
      subst e
      refine Ev.step (f := fun _ => some _) (fun k => ?_) (Ev.now _)
      simp only [laws_toStringS.l0]
      rw [if_neg (by omega)]
    | succ d ih =>
      intro i M h hM ht
      have hi : i < L.length := by omega
      have hset : (M.set i L[i]).take (i + 1) = L.take (i + 1) := by
        rw [List.take_succ_eq_append_getElem (by rw [List.length_set]; omega), List.take_set_of_le (Nat.le_refl _), List.getElem_set_self, ht, List.take_succ_eq_append_getElem hi]
      refine Ev.step (fun k => ?_) (ih (i + 1) (M.set i L[i]) (by omega) (by rw [List.length_set]; exact hM) hset)
      simp only [laws_toStringS.l0]
      rw [if_pos (by omega), if_pos (by omega), if_pos (by omega), rd_str L i hi, wrap_nat1 i (by omega)]
      rfl
  refine Ev.congr (fun k => ?_) (loop L.length 0 (List.replicate L.length (⟨#[]⟩ : ByteArray)) (by omega) (by simp) (by simp))
  unfold laws_toStringS.f
  rw [if_pos (by omega), if_pos (by simp; omega)]
  rfl
end Go.Proofs.Ytmddcohelcciaab.PFnExactSameProg
