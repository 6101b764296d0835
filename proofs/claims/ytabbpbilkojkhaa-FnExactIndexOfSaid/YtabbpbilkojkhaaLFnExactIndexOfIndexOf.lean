/- IndexOf: where a text first stands in another. -/
import Derived.Test.YtabbpbilkojkhaaXLem
import Derived.Lib.Index
import Derived.Test.YtabbpbilkojkhaaPFnExactIndexOfx
namespace Go.Proofs.Ytabbpbilkojkhaa.PFnExactIndexOf
set_option linter.unusedVariables false
set_option linter.unusedSimpArgs false
open Go.RowKit Go.Proofs.YtabbpbilkojkhaaW.PrintWords Go.Proofs.YtabbpbilkojkhaaW.PrintLast Go.Proofs.YtabbpbilkojkhaaW.PrintMore Go.Proofs.Ytabbpbilkojkhaa.XL

theorem toList_nil (t : ByteArray) : t.toList = [] ↔ t.size = 0 := by
  rw [toList_data]
  constructor
  · intro h
    have : t.data.toList.length = 0 := by rw [h]; rfl
    rw [Array.length_toList] at this
    exact this
  · intro h
    apply List.eq_nil_of_length_eq_zero
    rw [Array.length_toList]
    exact h

section
variable {s t : ByteArray} (hs : s.size ≤ 140737488351232) (ht : t.size ≤ 140737488351232) (h0 : ¬ t.toList = [])
include hs ht h0

/-- From place i on: nothing before i. -/
theorem index_loop : ∀ (d i : Nat), i + d = s.size + 1 → (∀ j, j < i → Lib.occAt s.data.toList t.data.toList j = false) →
    Ev (fun k => spec_IndexOf.l0 k s t (i : Int)) (Lib.index s.data.toList t.data.toList + 1) := by
  have hsl : s.data.toList.length = s.size := by rw [Array.length_toList]; rfl
  have htl : t.data.toList.length = t.size := by rw [Array.length_toList]; rfl
  have hz : 0 < t.size := by
    rcases Nat.eq_zero_or_pos t.size with z | z
    · exact absurd ((toList_nil t).2 z) h0
    · exact z
  intro d
  induction d with
  | zero =>
    intro i h hno
    have e : Lib.index s.data.toList t.data.toList = -1 := Lib.index_none (fun j hj => hno j (by omega))
    rw [e]
    refine Ev.step (f := fun k => spec_IndexOf.j1 k s t (i : Int) false) (fun k => ?_) (Ev.step (f := fun _ => some (-1 + 1)) (fun k => ?_) (Ev.now _))
    · simp only [spec_IndexOf.l0]
      rw [if_neg h0, wrap_id (n := (s.size : Int) - (i : Int)) (by omega) (by omega), decide_eq_false (by omega)]
    · simp only [spec_IndexOf.j1]
      rw [if_neg (by simp)]
      rfl
  | succ d ih =>
    intro i h hno
    by_cases hf : i + t.size ≤ s.size
    · have w1 : wrap64 ((i : Int) + (t.size : Int)) = ((i + t.size : Nat) : Int) := wrap_nat i t.size (by omega)
      have oc := Lib.occAt_iff_take s.data.toList t.data.toList i (by omega)
      have ex : (s.extract i (i + t.size)).toList = (s.data.toList.drop i).take t.data.toList.length := by
        rw [toList_data, extract_data, htl, List.drop_take]
        congr 1
        omega
      have hstep : ∀ k, spec_IndexOf.l0 (k + 1) s t (i : Int) = spec_IndexOf.j1 k s t (i : Int) true := fun k => by
        simp only [spec_IndexOf.l0]
        rw [if_neg h0, wrap_id (n := (s.size : Int) - (i : Int)) (by omega) (by omega), decide_eq_true (by omega)]
      by_cases hq : (s.extract i (i + t.size)).toList = t.toList
      · have ho : Lib.occAt s.data.toList t.data.toList i = true := by
          rw [oc, ← ex, hq, toList_data]; simp
        have e : Lib.index s.data.toList t.data.toList = i := Lib.index_first (by omega) ho hno
        rw [e]
        refine Ev.step hstep (Ev.step (f := fun _ => some ((i : Int) + 1)) (fun k => ?_) (Ev.now _))
        simp only [spec_IndexOf.j1]
        rw [if_pos (by trivial), if_pos (by omega), w1, if_pos (by omega), if_pos (by omega)]
        simp only [Int.toNat_natCast]
        rw [if_pos hq, wrap_id (by omega) (by omega)]
      · have ho : Lib.occAt s.data.toList t.data.toList i = false := by
          rw [oc, ← ex]
          rw [beq_eq_false_iff_ne]
          intro z
          exact hq (by rw [z, toList_data])
        refine Ev.step hstep (Ev.step (fun k => ?_) (ih (i + 1) (by omega) (fun j hj => ?_)))
        · simp only [spec_IndexOf.j1]
          rw [if_pos (by trivial), if_pos (by omega), w1, if_pos (by omega), if_pos (by omega)]
          simp only [Int.toNat_natCast]
          rw [if_neg hq, wrap_nat1 i (by omega)]
        · rcases Nat.lt_or_ge j i with g | g
          · exact hno j g
          · have : j = i := by omega
            rw [this]; exact ho
    · have e : Lib.index s.data.toList t.data.toList = -1 := Lib.index_none (fun j hj => by
        rcases Nat.lt_or_ge j i with g | g
        · exact hno j g
        · cases hc : Lib.occAt s.data.toList t.data.toList j with
          | false => rfl
          | true =>
            rcases Lib.occAt_room hc with z | z
            · omega
            · rw [z] at htl; simp at htl; omega)
      rw [e]
      refine Ev.step (f := fun k => spec_IndexOf.j1 k s t (i : Int) false) (fun k => ?_) (Ev.step (f := fun _ => some (-1 + 1)) (fun k => ?_) (Ev.now _))
      · simp only [spec_IndexOf.l0]
        rw [if_neg h0, wrap_id (n := (s.size : Int) - (i : Int)) (by omega) (by omega), decide_eq_false (by omega)]
      · simp only [spec_IndexOf.j1]
        rw [if_neg (by simp)]
        rfl
end
theorem index_le (s t : List UInt8) : Lib.index s t ≤ s.length := by
  induction s with
  | nil => unfold Lib.index; split <;> simp
  | cons b l ih =>
    unfold Lib.index
    split
    · simp; omega
    · split
      · simp; omega
      · simp; omega

theorem index_same {s t : ByteArray} (hs : s.size ≤ 1048576) (ht : t.size ≤ 1048576) : ∃ r, Ev (fun k => spec_IndexOf.f k s t) r ∧ impl_IndexOf.f s t = some r := by
  by_cases h0 : t.toList = []
  · refine ⟨0, ?_, ?_⟩
    · refine Ev.step (g := fun k => spec_IndexOf.l0 k s t 0) (f := fun k => spec_IndexOf.j1 k s t 0 false) (fun k => ?_) (Ev.step (f := fun _ => some 0) (fun k => ?_) (Ev.now _))
      · simp only [spec_IndexOf.l0]
        rw [if_pos h0]
      · simp only [spec_IndexOf.j1]
        rw [if_neg (by simp)]
    · unfold impl_IndexOf.f; rw [if_pos h0]
  · have hl : Lib.index s.data.toList t.data.toList ≤ s.size := by have := index_le s.data.toList t.data.toList; rw [Array.length_toList] at this; exact this
    have hg := Lib.index_ge s.data.toList t.data.toList
    refine ⟨Lib.index s.data.toList t.data.toList + 1, index_loop (by omega) (by omega) h0 (s.size + 1) 0 (by omega) (fun j hj => absurd hj (Nat.not_lt_zero _)), ?_⟩
    unfold impl_IndexOf.f strings_Index.f
    rw [if_neg h0, if_pos (by omega), Option.bind_some, wrap_id (by omega) (by omega)]
end Go.Proofs.Ytabbpbilkojkhaa.PFnExactIndexOf
