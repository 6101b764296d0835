/- SplitBy: the parts of a text between others, in the program and in the reference. -/
import Derived.Test.YtegllcjlngdijaaDoorXSplit
import Derived.Test.YtegllcjlngdijaaDoorPFnExactSplitByx
import Derived.Test.YtegllcjlngdijaaDoorLFnExactSplitBySkip
import Derived.Test.YtegllcjlngdijaaDoorLFnExactSplitByFields
namespace Go.Proofs.YtegllcjlngdijaaDoor.PFnExactSplitBy
set_option linter.unusedVariables false
set_option linter.unusedSimpArgs false
open Go.RowKit Go.Proofs.YtegllcjlngdijaaDoorW.PrintWords Go.Proofs.YtegllcjlngdijaaDoorW.PrintLast Go.Proofs.YtegllcjlngdijaaDoorW.PrintMore Go.Proofs.YtegllcjlngdijaaDoor.XL

theorem toList_no (t : ByteArray) : t.toList = [] ↔ t.size = 0 := by
  rw [toList_data, ← data_size]
  exact ⟨fun h => by rw [h]; rfl, fun h => List.eq_nil_of_length_eq_zero h⟩
theorem hit_iff (s sep : ByteArray) (i : Nat) (h : i + sep.size ≤ s.size) : (s.extract i (i + sep.size)).toList = sep.toList ↔ hit s sep i = true := by
  unfold hit
  rw [Lib.occAt_iff_take s.data.toList sep.data.toList i (by rw [data_size, data_size]; exact h), toList_data, toList_data, extract_data, List.drop_take, data_size, show i + sep.size - i = sep.size by omega]
  constructor
  · intro z; rw [z]; simp
  · intro z; exact eq_of_beq z
theorem spl_stop (s sep : ByteArray) (h1 : 1 ≤ sep.size) : ∀ (f i a : Nat), s.size < i + sep.size → spl s sep f i a = [(a, s.size)] := by
  intro f
  induction f with
  | zero => intro i a h; rfl
  | succ f ih =>
    intro i a h
    simp only [spl]
    by_cases hlt : i < s.size
    · rw [if_pos hlt]
      have hn : ¬ hit s sep i = true := fun z => by have := hit_room h1 z; omega
      rw [if_neg hn]
      exact ih (i + 1) a (by omega)
    · rw [if_neg hlt]
def splitV (s sep : ByteArray) : List ByteArray :=
  if sep.toList = [32] then fieldsR s else if (s.size : Int) > 500 ∨ s.size = 0 then [] else if sep.size = 0 then [s] else ((spl s sep s.size 0 0).map (exP s)).take 50
theorem splitV_length (s sep : ByteArray) : (splitV s sep).length ≤ 50 := by
  unfold splitV
  split
  · exact fieldsR_length s
  · split
    · simp
    · split
      · simp
      · rw [List.length_take]; omega
theorem impl_split (s sep : ByteArray) (hsep : sep.size ≤ 1048576) (k : Nat) : impl_SplitBy.f (k + 1) s sep = some (splitV s sep) := by
  unfold impl_SplitBy.f splitV
  by_cases hb : (s.size : Int) > 500
  · rw [if_pos hb, decide_eq_true hb]
    simp only [impl_SplitBy.j0]
    rw [if_pos (by trivial), if_pos (Or.inl hb)]
    have hf : fieldsR s = [] := by unfold fieldsR; rw [if_pos hb]
    rw [hf]
    split <;> rfl
  · rw [if_neg hb]
    by_cases h0 : s.toList = []
    · have hz := (toList_no s).1 h0
      rw [h0]
      simp only [impl_SplitBy.j0]
      rw [if_pos (by rfl), if_pos (Or.inr hz)]
      have hf : fieldsR s = [] := by
        unfold fieldsR fieldsV
        rw [if_neg hb, hz]; rfl
      rw [hf]
      split <;> rfl
    · have hz : ¬ s.size = 0 := fun z => h0 ((toList_no s).2 z)
      rw [show (s.toList == ([] : List UInt8)) = false by simpa using h0]
      simp only [impl_SplitBy.j0]
      rw [if_neg (by simp), if_neg (show ¬ ((s.size : Int) > 500 ∨ s.size = 0) by omega)]
      by_cases h32 : sep.toList = [32]
      · rw [if_pos h32, if_pos h32, impl_fields]; rfl
      · rw [if_neg h32, if_neg h32]
        by_cases he : sep.toList = []
        · rw [if_pos he, if_pos ((toList_no sep).1 he)]
        · have hm : ¬ sep.size = 0 := fun z => he ((toList_no sep).2 z)
          rw [if_neg he, if_neg hm]
          unfold strings_Split.f
          rw [if_pos ⟨by omega, by omega⟩, Option.bind_some, split_eq s sep (by omega)]
          generalize (spl s sep s.size 0 0).map (exP s) = L
          have hmn : 0 ≤ mn (L.length : Int) 50 ∧ mn (L.length : Int) 50 ≤ (L.length : Int) := by unfold mn; split <;> omega
          rw [if_pos hmn.1, if_pos hmn.2]
          congr 1
          by_cases h50 : L.length ≤ 50
          · rw [List.take_of_length_le h50, List.take_of_length_le (by unfold mn; split <;> omega)]
          · congr 1
            unfold mn; split <;> omega
theorem split_loop {s sep : ByteArray} (hs : s.size ≤ 500) (h1 : 1 ≤ sep.size) (hsep : sep.size ≤ 1048576) : ∀ (f i a : Nat) (L : List ByteArray), a ≤ i → i ≤ s.size → s.size - i ≤ f → L.length + f ≤ 1000000 →
    Ev (fun k => spec_SplitBy.l0 k s sep L (a : Int) (i : Int)) ((L ++ (spl s sep f i a).map (exP s)).take 50) := by
  have hne : ¬ sep.toList = [] := fun z => by have := (toList_no sep).1 z; omega
  have stop : ∀ (f i a : Nat) (L : List ByteArray), a ≤ i → i ≤ s.size → s.size < i + sep.size → L.length ≤ 1000000 → Ev (fun k => spec_SplitBy.l0 k s sep L (a : Int) (i : Int)) ((L ++ (spl s sep f i a).map (exP s)).take 50) := by
    intro f i a L ha hi hz hL
    rw [spl_stop s sep h1 f i a hz]
    refine Ev.step (f := fun k => spec_SplitBy.j2 k s sep L (a : Int) (i : Int) false) (fun k => ?_) (Ev.step (f := fun _ => some _) (fun k => ?_) (Ev.now _))
    · simp only [spec_SplitBy.l0]
      rw [if_neg hne, wrap_nat i sep.size (by omega), decide_eq_false (by omega)]
    · simp only [spec_SplitBy.j2]
      rw [if_neg (by simp), if_pos (by omega), if_pos (by omega), if_pos (by omega), most_eq]
      rfl
  intro f
  induction f with
  | zero =>
    intro i a L ha hi hf hL
    exact stop 0 i a L ha hi (by omega) (by omega)
  | succ f ih =>
    intro i a L ha hi hf hL
    by_cases hr : i + sep.size ≤ s.size
    · have hstep : ∀ k, spec_SplitBy.l0 (k + 1) s sep L (a : Int) (i : Int) = spec_SplitBy.j2 k s sep L (a : Int) (i : Int) true := fun k => by
        simp only [spec_SplitBy.l0]
        rw [if_neg hne, wrap_nat i sep.size (by omega), decide_eq_true (by omega)]
      simp only [spl]
      rw [if_pos (show i < s.size by omega)]
      cases hh : hit s sep i with
      | true =>
        rw [if_pos rfl, List.map_cons]
        have hih := ih (i + sep.size) (i + sep.size) (L ++ [exP s (a, i)]) (Nat.le_refl _) hr (by omega) (by rw [List.length_append]; simp; omega)
        rw [List.append_assoc] at hih
        refine Ev.step hstep (Ev.step (fun k => ?_) hih)
        simp only [spec_SplitBy.j2]
        rw [if_pos (by trivial), if_pos (by omega), wrap_nat i sep.size (by omega), if_pos (by omega), if_pos (by omega)]
        simp only [Int.toNat_natCast]
        rw [if_pos ((hit_iff s sep i hr).2 hh), if_pos (by omega), if_pos (by omega), if_pos (by omega), if_pos (by omega), wrap_id (n := ((i + sep.size : Nat) : Int) - 1) (by omega) (by omega), wrap_id (n := ((i + sep.size : Nat) : Int) - 1 + 1) (by omega) (by omega), show ((i + sep.size : Nat) : Int) - 1 + 1 = ((i + sep.size : Nat) : Int) by omega]
        rfl
      | false =>
        rw [if_neg (by simp)]
        have hn : ¬ (s.extract i (i + sep.size)).toList = sep.toList := fun z => by
          have := (hit_iff s sep i hr).1 z
          rw [hh] at this
          cases this
        refine Ev.step hstep (Ev.step (fun k => ?_) (ih (i + 1) a L (by omega) (by omega) (by omega) (by omega)))
        simp only [spec_SplitBy.j2]
        rw [if_pos (by trivial), if_pos (by omega), wrap_nat i sep.size (by omega), if_pos (by omega), if_pos (by omega)]
        simp only [Int.toNat_natCast]
        rw [if_neg hn, wrap_nat1 i (by omega)]
    · exact stop (f + 1) i a L ha hi (by omega) (by omega)
theorem spec_split (s sep : ByteArray) (hsep : sep.size ≤ 1048576) : Ev (fun k => spec_SplitBy.f k s sep) (splitV s sep) := by
  unfold splitV
  by_cases h32 : sep.toList = [32]
  · rw [if_pos h32]
    refine ev_use1 (spec_fields s) (fun k g1 => ?_)
    unfold spec_SplitBy.f
    rw [if_pos h32, g1]; rfl
  · rw [if_neg h32]
    have empty : ∀ k, spec_SplitBy.j0 (k + 1) s sep ([] : List ByteArray) true = some [] := fun k => by simp only [spec_SplitBy.j0]; rw [if_pos (by trivial)]
    by_cases hb : (s.size : Int) > 500
    · rw [if_pos (Or.inl hb)]
      refine ⟨1, fun k hk => ?_⟩
      obtain ⟨k, rfl⟩ : ∃ m, k = m + 1 := ⟨k - 1, by omega⟩
      show spec_SplitBy.f (k + 1) s sep = _
      unfold spec_SplitBy.f
      rw [if_neg h32, if_pos hb]
      exact empty k
    · by_cases hz : s.size = 0
      · rw [if_pos (Or.inr hz)]
        refine ⟨1, fun k hk => ?_⟩
        obtain ⟨k, rfl⟩ : ∃ m, k = m + 1 := ⟨k - 1, by omega⟩
        show spec_SplitBy.f (k + 1) s sep = _
        unfold spec_SplitBy.f
        rw [if_neg h32, if_neg hb, (toList_no s).2 hz]
        exact empty k
      · rw [if_neg (show ¬ ((s.size : Int) > 500 ∨ s.size = 0) by omega)]
        have h0 : ¬ s.toList = [] := fun z => hz ((toList_no s).1 z)
        have hstart : ∀ k, spec_SplitBy.f (k + 1) s sep = spec_SplitBy.l0 k s sep [] 0 0 := fun k => by
          unfold spec_SplitBy.f
          rw [if_neg h32, if_neg hb, show (s.toList == ([] : List UInt8)) = false by simpa using h0]
          simp only [spec_SplitBy.j0]
          rw [if_neg (by simp)]
        by_cases hm : sep.size = 0
        · rw [if_pos hm]
          refine Ev.step hstart (Ev.step (f := fun k => spec_SplitBy.j2 k s sep [] 0 0 false) (fun k => ?_) (Ev.step (f := fun _ => some _) (fun k => ?_) (Ev.now _)))
          · simp only [spec_SplitBy.l0]
            rw [if_pos ((toList_no sep).2 hm)]
          · simp only [spec_SplitBy.j2]
            have e : s.extract 0 s.size = s := by apply ba_ext; rw [suffix_data, List.drop_zero]
            rw [if_neg (by simp), if_pos (by omega), if_pos (by omega), if_pos (by simp), most_eq]
            simp only [Int.toNat_zero, List.nil_append]
            rw [e]
            rfl
        · rw [if_neg hm]
          have hl := split_loop (s := s) (sep := sep) (by omega) (by omega) hsep s.size 0 0 [] (Nat.le_refl _) (Nat.zero_le _) (by omega) (by simp; omega)
          rw [List.nil_append] at hl
          exact Ev.step hstart hl
end Go.Proofs.YtegllcjlngdijaaDoor.PFnExactSplitBy
