/- Pieces between occurrences of a text: their places. -/
import Derived.Test.YtegllcjlngdijaaDoorXJoin
import Derived.Lib.Index
import Derived.Lib.Split
import Derived.Lib.SplitLaws
import Derived.Lib.CountLaws
namespace Go.Proofs.YtegllcjlngdijaaDoor.XL
set_option linter.unusedVariables false
set_option linter.unusedSimpArgs false
open Go.RowKit Go.Proofs.YtegllcjlngdijaaDoorW.PrintWords Go.Proofs.YtegllcjlngdijaaDoorW.PrintLast
def hit (s sep : ByteArray) (i : Nat) : Bool := Lib.occAt s.data.toList sep.data.toList i
/-- The pieces' places, from i on, the piece at hand begun at a. -/
def spl (s sep : ByteArray) : Nat → Nat → Nat → List (Nat × Nat)
  | 0, _, a => [(a, s.size)]
  | f + 1, i, a => if i < s.size then (if hit s sep i = true then (a, i) :: spl s sep f (i + sep.size) (i + sep.size) else spl s sep f (i + 1) a) else [(a, s.size)]
def exP (s : ByteArray) (p : Nat × Nat) : ByteArray := s.extract p.1 p.2
theorem hit_room {s sep : ByteArray} (h1 : 1 ≤ sep.size) {i : Nat} (h : hit s sep i = true) : i + sep.size ≤ s.size := by
  rcases Lib.occAt_room h with z | z
  · rw [data_size, data_size] at z; exact z
  · have := data_size sep
    rw [z] at this
    simp at this
    omega
theorem suffix_data (s : ByteArray) (a : Nat) : (s.extract a s.size).data.toList = s.data.toList.drop a := by
  rw [extract_data, List.take_of_length_le (by rw [data_size]; omega)]
theorem hit_suffix (s sep : ByteArray) (a j : Nat) : Lib.occAt (s.extract a s.size).data.toList sep.data.toList j = hit s sep (a + j) := by
  unfold hit Lib.occAt
  rw [suffix_data, List.drop_drop]
theorem extract_extract (s : ByteArray) (a i j : Nat) (h : j ≤ s.size) (ha : a ≤ i) (hij : i ≤ j) : (s.extract a s.size).extract (i - a) (j - a) = s.extract i j := by
  apply ba_ext
  rw [extract_data, suffix_data, extract_data, List.take_drop, List.drop_drop]
  rw [show a + (j - a) = j by omega, show a + (i - a) = i by omega]
theorem split_from (s sep : ByteArray) (h1 : 1 ≤ sep.size) : ∀ (f i a : Nat), a ≤ i → i ≤ s.size → (∀ j, a ≤ j → j < i → hit s sep j = false) → s.size - i ≤ f →
    Lib.splitB sep 0 (Lib.countB (s.extract a s.size) sep) (s.extract a s.size) = (spl s sep f i a).map (exP s) := by
  have none_left : ∀ (i a : Nat), a ≤ i → s.size ≤ i → (∀ j, a ≤ j → j < i → hit s sep j = false) → Lib.splitB sep 0 (Lib.countB (s.extract a s.size) sep) (s.extract a s.size) = [(a, s.size)].map (exP s) := by
    intro i a ha hi hno
    have hm : Lib.indexB (s.extract a s.size) sep = -1 := Lib.index_none (fun j hj => by
      rw [hit_suffix]
      by_cases hj2 : a + j < i
      · exact hno (a + j) (by omega) hj2
      · cases hc : hit s sep (a + j) with
        | false => rfl
        | true => have := hit_room h1 hc; omega)
    rw [Lib.splitB_miss _ _ _ _ hm]
    rfl
  intro f
  induction f with
  | zero =>
    intro i a ha hi hno hf
    exact none_left i a ha (by omega) hno
  | succ f ih =>
    intro i a ha hi hno hf
    by_cases hlt : i < s.size
    · simp only [spl]
      rw [if_pos hlt]
      cases hh : hit s sep i with
      | true =>
        rw [if_pos rfl, List.map_cons]
        have hr := hit_room h1 hh
        have hidx : Lib.indexB (s.extract a s.size) sep = ((i - a : Nat) : Int) := by
          refine Lib.index_first ?_ ?_ ?_
          · rw [data_size, size_extract]; omega
          · rw [hit_suffix, show a + (i - a) = i by omega]; exact hh
          · intro j hj; rw [hit_suffix]; exact hno (a + j) (by omega) (by omega)
        have hz : (s.extract a s.size).size = s.size - a := by rw [size_extract]; omega
        have hrest : (s.extract a s.size).extract (i - a + sep.size) (s.extract a s.size).size = s.extract (i + sep.size) s.size := by
          rw [hz, show i - a + sep.size = (i + sep.size) - a by omega]
          exact extract_extract s a (i + sep.size) s.size (Nat.le_refl _) (by omega) hr
        rw [Lib.countB_hit _ _ _ h1 hidx, hrest, Nat.add_comm 1, Lib.splitB_hit _ _ _ _ _ hidx, hrest, ih (i + sep.size) (i + sep.size) (Nat.le_refl _) hr (fun j h2 h3 => by omega) (by omega)]
        congr 1
        have := extract_extract s a a i (by omega) (Nat.le_refl _) ha
        rw [Nat.sub_self] at this
        rw [Nat.add_zero]
        exact this
      | false =>
        rw [if_neg (by simp)]
        refine ih (i + 1) a (by omega) (by omega) (fun j h2 h3 => ?_) (by omega)
        by_cases hj : j = i
        · rw [hj]; exact hh
        · exact hno j h2 (by omega)
    · simp only [spl]
      rw [if_neg hlt]
      exact none_left i a ha (by omega) hno
theorem split_eq (s sep : ByteArray) (h1 : 1 ≤ sep.size) : Lib.splitB sep 0 (Lib.countB s sep) s = (spl s sep s.size 0 0).map (exP s) := by
  have := split_from s sep h1 s.size 0 0 (Nat.le_refl _) (Nat.zero_le _) (fun j h2 h3 => by omega) (by omega)
  have e : s.extract 0 s.size = s := by
    apply ba_ext
    rw [suffix_data, List.drop_zero]
  rw [e] at this
  exact this
/-- The last piece: it holds no occurrence; all pieces but the last stand before it. -/
theorem spl_last (s sep : ByteArray) (h1 : 1 ≤ sep.size) : ∀ (f i a : Nat), a ≤ i → i ≤ s.size → (∀ j, a ≤ j → j < i → hit s sep j = false) → s.size - i ≤ f →
    ∃ P q, spl s sep f i a = P ++ [(q, s.size)] ∧ q ≤ s.size ∧ (∀ j, q ≤ j → hit s sep j = false) := by
  have fin : ∀ (i a : Nat), s.size ≤ i → (∀ j, a ≤ j → j < i → hit s sep j = false) → ∀ j, a ≤ j → hit s sep j = false := by
    intro i a hi hno j hj
    by_cases h : j < i
    · exact hno j hj h
    · cases hc : hit s sep j with
      | false => rfl
      | true => have := hit_room h1 hc; omega
  intro f
  induction f with
  | zero =>
    intro i a ha hi hno hf
    exact ⟨[], a, rfl, by omega, fin i a (by omega) hno⟩
  | succ f ih =>
    intro i a ha hi hno hf
    simp only [spl]
    by_cases hlt : i < s.size
    · rw [if_pos hlt]
      cases hh : hit s sep i with
      | true =>
        rw [if_pos rfl]
        have hr := hit_room h1 hh
        obtain ⟨P, q, e, h2, h3⟩ := ih (i + sep.size) (i + sep.size) (Nat.le_refl _) hr (fun j h2 h3 => by omega) (by omega)
        exact ⟨(a, i) :: P, q, by rw [e]; rfl, h2, h3⟩
      | false =>
        rw [if_neg (by simp)]
        refine ih (i + 1) a (by omega) (by omega) (fun j h2 h3 => ?_) (by omega)
        by_cases hj : j = i
        · rw [hj]; exact hh
        · exact hno j h2 (by omega)
    · rw [if_neg hlt]
      exact ⟨[], a, rfl, by omega, fin i a (by omega) hno⟩
/-- The pieces with the separator behind each are the text with one behind it. -/
theorem spl_text (s sep : ByteArray) (h1 : 1 ≤ sep.size) : ∀ (f i a : Nat), a ≤ i → i ≤ s.size → s.size - i ≤ f →
    (spl s sep f i a).flatMap (fun p => (exP s p).data.toList ++ sep.data.toList) = s.data.toList.drop a ++ sep.data.toList := by
  have fin : ∀ a : Nat, [(a, s.size)].flatMap (fun p => (exP s p).data.toList ++ sep.data.toList) = s.data.toList.drop a ++ sep.data.toList := by
    intro a
    simp only [List.flatMap_cons, List.flatMap_nil, List.append_nil]
    congr 1
    exact suffix_data s a
  intro f
  induction f with
  | zero => intro i a ha hi hf; exact fin a
  | succ f ih =>
    intro i a ha hi hf
    simp only [spl]
    by_cases hlt : i < s.size
    · rw [if_pos hlt]
      cases hh : hit s sep i with
      | true =>
        rw [if_pos rfl, List.flatMap_cons]
        have hr := hit_room h1 hh
        rw [ih (i + sep.size) (i + sep.size) (Nat.le_refl _) hr (by omega)]
        have hocc := Lib.occAt_iff_take s.data.toList sep.data.toList i (by rw [data_size, data_size]; exact hr)
        have hh' : Lib.occAt s.data.toList sep.data.toList i = true := hh
        rw [hh'] at hocc
        have he := eq_of_beq hocc.symm
        have e2 : s.data.toList.drop i = sep.data.toList ++ s.data.toList.drop (i + sep.size) := by
          conv => lhs; rw [← List.take_append_drop sep.data.toList.length (s.data.toList.drop i)]
          rw [he, List.drop_drop, data_size]
        have e1 : s.data.toList.drop a = (exP s (a, i)).data.toList ++ s.data.toList.drop i := by
          unfold exP
          rw [extract_data, List.drop_take]
          conv => lhs; rw [← List.take_append_drop (i - a) (s.data.toList.drop a)]
          rw [List.drop_drop, show a + (i - a) = i by omega]
        rw [e1, e2]
        simp only [List.append_assoc]
      | false =>
        rw [if_neg (by simp)]
        exact ih (i + 1) a (by omega) (by omega) (by omega)
    · rw [if_neg hlt]
      exact fin a
theorem spl_length (s sep : ByteArray) (h1 : 1 ≤ sep.size) : ∀ (f i a : Nat), (spl s sep f i a).length ≤ f + 1 := by
  intro f
  induction f with
  | zero => intro i a; simp [spl]
  | succ f ih =>
    intro i a
    simp only [spl]
    split
    · split
      · have := ih (i + sep.size) (i + sep.size); simp; omega
      · have := ih (i + 1) a; omega
    · simp
theorem hit_ten (s : ByteArray) (i : Nat) (h : i < s.size) : hit s (⟨#[10]⟩ : ByteArray) i = (bt s (i : Int) == 10) := by
  unfold hit
  rw [Lib.occAt_iff_take s.data.toList _ i (by rw [data_size]; show i + 1 ≤ s.size; omega)]
  have hl : i < s.data.toList.length := by rw [data_size]; exact h
  have e : (s.data.toList.drop i).take 1 = [s.data.toList[i]] := by
    rw [List.drop_eq_getElem_cons hl]; rfl
  show ((s.data.toList.drop i).take 1 == [10]) = _
  rw [e]
  have eb : bt s (i : Int) = ((s.data.toList[i]).toNat : Int) := by
    rw [bt_getD, bytesOf_data, List.getD_eq_getElem?_getD, List.getElem?_map, List.getElem?_eq_getElem hl]
    rfl
  rw [eb]
  by_cases hc : s.data.toList[i] = 10
  · rw [hc]; rfl
  · have h2 : ¬ (((s.data.toList[i]).toNat : Int) = 10) := fun z => hc (by
      apply UInt8.toNat.inj
      have : (s.data.toList[i]).toNat = 10 := by omega
      rw [this]; rfl)
    rw [show ((((s.data.toList[i]).toNat : Int)) == 10) = false by simpa using h2]
    simpa using hc
end Go.Proofs.YtegllcjlngdijaaDoor.XL
