/- Lines: the reference's loop over a text answers the same pieces. -/
import Derived.Test.YtegllcjlngdijaaDoorXSplit
import Derived.Test.YtegllcjlngdijaaDoorPFnExactLinesx
import Derived.Test.YtegllcjlngdijaaDoorLFnExactLinesLinesV
namespace Go.Proofs.YtegllcjlngdijaaDoor.PFnExactLines
set_option linter.unusedVariables false
set_option linter.unusedSimpArgs false
open Go.RowKit Go.Proofs.YtegllcjlngdijaaDoorW.PrintWords Go.Proofs.YtegllcjlngdijaaDoorW.PrintLast Go.Proofs.YtegllcjlngdijaaDoorW.PrintMore Go.Proofs.YtegllcjlngdijaaDoor.XL

theorem toList_no (t : ByteArray) : t.toList = [] ↔ t.size = 0 := by
  rw [toList_data, ← data_size]
  exact ⟨fun h => by rw [h]; rfl, fun h => List.eq_nil_of_length_eq_zero h⟩
theorem hit_nl (s : ByteArray) (i : Nat) (h : i < s.size) : bt s (i : Int) = 10 ↔ hit s nl i = true := by
  have e1 : (s.extract i (i + 1)).data.toList = (s.data.toList.drop i).take 1 := by rw [extract_data, List.drop_take]; congr 1; omega
  have hb := bt_bytes s i h
  have hi : i < s.data.toList.length := by rw [data_size]; exact h
  have hg : bt s (i : Int) = ((s.data.toList[i]).toNat : Int) := by
    rw [← hb]
    simp [bytesOf]
  unfold hit
  rw [Lib.occAt_iff_take s.data.toList nl.data.toList i (by rw [data_size, data_size]; show i + 1 ≤ s.size; omega), show nl.data.toList = [10] from rfl, List.drop_eq_getElem_cons hi, hg]
  simp only [List.length_singleton, List.take_succ_cons, List.take_zero]
  constructor
  · intro z
    have : s.data.toList[i] = 10 := UInt8.toNat_inj.mp (by show s.data.toList[i].toNat = 10; omega)
    rw [this]; rfl
  · intro z
    have z := eq_of_beq z
    have : s.data.toList[i] = 10 := by simpa using z
    rw [this]; rfl
theorem lines_spec {s : ByteArray} (hs : s.size ≤ 3000) : ∀ (f i a : Nat) (L : List ByteArray), a ≤ i → i ≤ s.size → s.size - i ≤ f → L.length + f ≤ 1000000 →
    ∃ P q, spl s nl f i a = P ++ [(q, s.size)] ∧ Ev (fun k => spec_Lines.l0 k s L (a : Int) (i : Int)) (L ++ (if q = s.size then P.map (exP s) else (P ++ [(q, s.size)]).map (exP s))) := by
  have stop : ∀ (a : Nat) (L : List ByteArray), a ≤ s.size → L.length ≤ 1000000 → Ev (fun k => spec_Lines.l0 k s L (a : Int) (s.size : Int)) (L ++ (if a = s.size then (([] : List (Nat × Nat)).map (exP s)) else (([] : List (Nat × Nat)) ++ [(a, s.size)]).map (exP s))) := by
    intro a L ha hL
    refine Ev.step (f := fun _ => some _) (fun k => ?_) (Ev.now _)
    simp only [spec_Lines.l0]
    rw [if_neg (by omega)]
    by_cases h : a = s.size
    · rw [if_neg (by omega), if_pos h, List.map_nil, List.append_nil]
    · rw [if_pos (by omega), if_pos (by omega), if_pos (by omega), if_pos (by omega), if_neg h]
      rfl
  intro f
  induction f with
  | zero =>
    intro i a L ha hi hf hL
    have e : i = s.size := by omega
    subst e
    exact ⟨[], a, rfl, stop a L ha (by omega)⟩
  | succ f ih =>
    intro i a L ha hi hf hL
    by_cases hlt : i < s.size
    · simp only [spl]
      rw [if_pos hlt]
      cases hh : hit s nl i with
      | true =>
        rw [if_pos rfl]
        obtain ⟨P, q, e, hev⟩ := ih (i + 1) (i + 1) (L ++ [exP s (a, i)]) (Nat.le_refl _) (by omega) (by omega) (by rw [List.length_append]; simp; omega)
        refine ⟨(a, i) :: P, q, by rw [show i + nl.size = i + 1 from rfl, e]; rfl, ?_⟩
        have e2 : L ++ [exP s (a, i)] ++ (if q = s.size then P.map (exP s) else (P ++ [(q, s.size)]).map (exP s)) = L ++ (if q = s.size then ((a, i) :: P).map (exP s) else ((a, i) :: P ++ [(q, s.size)]).map (exP s)) := by
          split <;> simp
        rw [e2] at hev
        refine Ev.step (fun k => ?_) hev
        simp only [spec_Lines.l0]
        rw [if_pos (by omega), if_pos (by omega), if_pos ((hit_nl s i hlt).2 hh), if_pos (by omega), if_pos (by omega), if_pos (by omega), if_pos (by omega), wrap_nat1 i (by omega)]
        rfl
      | false =>
        rw [if_neg (by simp)]
        obtain ⟨P, q, e, hev⟩ := ih (i + 1) a L (by omega) (by omega) (by omega) (by omega)
        refine ⟨P, q, e, Ev.step (fun k => ?_) hev⟩
        have hn : ¬ bt s (i : Int) = 10 := fun z => by
          have := (hit_nl s i hlt).1 z
          rw [hh] at this
          cases this
        simp only [spec_Lines.l0]
        rw [if_pos (by omega), if_pos (by omega), if_neg hn, wrap_nat1 i (by omega)]
    · have e : i = s.size := by omega
      subst e
      refine ⟨[], a, ?_, stop a L ha (by omega)⟩
      simp only [spl]
      rw [if_neg (by omega)]
      rfl
end Go.Proofs.YtegllcjlngdijaaDoor.PFnExactLines
