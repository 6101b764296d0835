/- Draws: texts of drawn letters; one of several texts. -/
import Derived.Test.YtlemhidllcbadaaDoorXBa
import Derived.Test.YtlemhidllcbadaaDoorPFnPutFieldsx
import Derived.Test.YtlemhidllcbadaaDoorLFnPutFieldsCur
namespace Go.Proofs.YtlemhidllcbadaaDoor.PFnPutFields
set_option linter.unusedVariables false
set_option linter.unusedSimpArgs false
open Go.RowKit Go.Proofs.YtlemhidllcbadaaDoorW.PrintWords Go.Proofs.YtlemhidllcbadaaDoorW.PrintLast Go.Proofs.YtlemhidllcbadaaDoorW.PrintMore Go.Proofs.YtlemhidllcbadaaDoor.XL

section
variable {b : List Int} (hb : b.length ≤ 140737488351232)
include hb
theorem of_ok (i h : Int) (n : Nat) (set : ByteArray) (hi : 0 ≤ i) (hs : 0 < set.size) (hs2 : set.size ≤ 1000) (hn : n ≤ 1000000) : ∃ s i' h', Ev (fun k => spec_l1of.f k b i h (n : Int) set) (s, i', h') ∧ 0 ≤ i' ∧ s.size ≤ n := by
  have loop : ∀ (d j : Nat) (acc : List Int) (i h : Int), j + d = n → acc.length = j → 0 ≤ i → ∃ s i' h', Ev (fun k => spec_l1of.l0 k (n : Int) set acc (j : Int) b i h) (s, i', h') ∧ 0 ≤ i' ∧ s.size ≤ n := by
    intro d
    induction d with
    | zero =>
      intro j acc i h hj ha hi
      refine ⟨strOfNums acc, i, h, Ev.step (f := fun _ => some _) (fun k => ?_) (Ev.now _), hi, ?_⟩
      · simp only [spec_l1of.l0]
        rw [if_neg (by omega)]
      · have : (strOfNums acc).size = acc.length := by
          show (strOfNums acc).data.size = _
          rw [← Array.length_toList, strOfNums_data, List.length_map]
        omega
    | succ d ih =>
      intro j acc i h hj ha hi
      obtain ⟨x, i1, g1, e1, x0, x1, _, p1⟩ := below_ok b i h (set.size : Int) hi hb
      obtain ⟨s, i2, g2, e2, p2, p3⟩ := ih (j + 1) (acc ++ [bt set x]) i1 g1 (by omega) (by simp; omega) p1
      refine ⟨s, i2, g2, Ev.step (fun k => ?_) e2, p2, p3⟩
      have hx := x1 (by omega)
      simp only [spec_l1of.l0]
      rw [if_pos (by omega), e1]
      simp only [Option.bind_some]
      rw [if_pos x0, if_pos hx, if_pos (by omega), wrap_nat1 j (by omega)]
  exact loop n 0 [] i h (by omega) rfl hi
theorem text_ok (i h : Int) (l : List ByteArray) (hi : 0 ≤ i) (hl : 0 < l.length) : ∃ s i' h', spec_l1text.f b i h l = some (s, i', h') ∧ 0 ≤ i' ∧ s ∈ l := by
  obtain ⟨x, i1, g1, e1, x0, x1, _, p1⟩ := below_ok b i h (l.length : Int) hi hb
  have hx := x1 (by omega)
  refine ⟨rdOf ByteArray.empty l x, i1, g1, ?_, p1, ?_⟩
  · unfold spec_l1text.f
    rw [e1]
    simp only [Option.bind_some]
    rw [if_pos x0, if_pos hx]
  · unfold rdOf
    rw [List.getD_eq_getElem?_getD, List.getElem?_eq_getElem (show x.toNat < l.length by omega)]
    exact List.getElem_mem _
end
end Go.Proofs.YtlemhidllcbadaaDoor.PFnPutFields
