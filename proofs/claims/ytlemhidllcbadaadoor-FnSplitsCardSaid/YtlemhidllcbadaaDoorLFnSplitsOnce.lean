/- Draws: once in n; texts of drawn letters; one of several texts; a drawn line. -/
import Derived.Test.YtlemhidllcbadaaDoorXBa
import Derived.Test.YtlemhidllcbadaaDoorPFnSplitsx
import Derived.Test.YtlemhidllcbadaaDoorLFnSplitsCur
namespace Go.Proofs.YtlemhidllcbadaaDoor.PFnSplits
set_option linter.unusedVariables false
set_option linter.unusedSimpArgs false
open Go.RowKit Go.Proofs.YtlemhidllcbadaaDoorW.PrintWords Go.Proofs.YtlemhidllcbadaaDoorW.PrintLast Go.Proofs.YtlemhidllcbadaaDoorW.PrintMore Go.Proofs.YtlemhidllcbadaaDoor.XL

section
variable {b : List Int} (hb : b.length ≤ 140737488351232)
include hb
theorem once_ok (i h n : Int) (hi : 0 ≤ i) : ∃ x i' h', spec_l1Once.f b i h n = some (x, i', h') ∧ 0 ≤ i' := by
  obtain ⟨x, i1, g1, e1, _, _, _, p1⟩ := below_ok b i h n hi hb
  unfold spec_l1Once.f
  rw [e1]
  exact ⟨_, _, _, rfl, p1⟩
theorem of_ok (i h : Int) (n : Nat) (set : ByteArray) (hi : 0 ≤ i) (hs : 0 < set.size) (hs2 : set.size ≤ 1000) (hn : n ≤ 1000000) : ∃ s i' h', Ev (fun k => spec_l1of.f k b i h (n : Int) set) (s, i', h') ∧ 0 ≤ i' ∧ s.size ≤ n := by
  have loop : ∀ (d j : Nat) (acc : List Int) (i h : Int), j + d = n → acc.length = j → 0 ≤ i → ∃ s i' h', Ev (fun k => spec_l1of.l0 k (n : Int) set acc (j : Int) b i h) (s, i', h') ∧ 0 ≤ i' ∧ s.size ≤ n := by
    intro d
    induction d with
    | zero =>
      intro j acc i h hj ha hi
      refine ⟨strOfNums acc, i, h, Ev.step (f := fun _ => some _) (fun k => ?_) (Ev.now _), hi, ?_⟩
      · simp only [spec_l1of.l0]
        rw [if_neg (by omega)]
      · have : (strOfNums acc).size = acc.length := by
          show (strOfNums acc).data.size = _
          rw [← Array.length_toList, strOfNums_data, List.length_map]
        omega
    | succ d ih =>
      intro j acc i h hj ha hi
      obtain ⟨x, i1, g1, e1, x0, x1, _, p1⟩ := below_ok b i h (set.size : Int) hi hb
      obtain ⟨s, i2, g2, e2, p2, p3⟩ := ih (j + 1) (acc ++ [bt set x]) i1 g1 (by omega) (by simp; omega) p1
      refine ⟨s, i2, g2, Ev.step (fun k => ?_) e2, p2, p3⟩
      have hx := x1 (by omega)
      simp only [spec_l1of.l0]
      rw [if_pos (by omega), e1]
      simp only [Option.bind_some]
      rw [if_pos x0, if_pos hx, if_pos (by omega), wrap_nat1 j (by omega)]
  exact loop n 0 [] i h (by omega) rfl hi
theorem text_ok (i h : Int) (l : List ByteArray) (hi : 0 ≤ i) (hl : 0 < l.length) : ∃ s i' h', spec_l1text.f b i h l = some (s, i', h') ∧ 0 ≤ i' ∧ s ∈ l := by
  obtain ⟨x, i1, g1, e1, x0, x1, _, p1⟩ := below_ok b i h (l.length : Int) hi hb
  have hx := x1 (by omega)
  refine ⟨rdOf ByteArray.empty l x, i1, g1, ?_, p1, ?_⟩
  · unfold spec_l1text.f
    rw [e1]
    simp only [Option.bind_some]
    rw [if_pos x0, if_pos hx]
  · unfold rdOf
    rw [List.getD_eq_getElem?_getD, List.getElem?_eq_getElem (show x.toNat < l.length by omega)]
    exact List.getElem_mem _
theorem line_ok (i h : Int) (hi : 0 ≤ i) : ∃ s i' h', Ev (fun k => spec_l8line.f k b i h) (s, i', h') ∧ 0 ≤ i' ∧ s.size ≤ 100 := by
  have loop : ∀ (d : Nat) (acc : ByteArray) (i h : Int), d ≤ 5 → acc.size + 10 * d ≤ 100 → 0 ≤ i → ∃ s i' h', Ev (fun k => spec_l8line.l0 k acc (d : Int) b i h) (s, i', h') ∧ 0 ≤ i' ∧ s.size ≤ 100 := by
    intro d
    induction d with
    | zero =>
      intro acc i h _ ha hi
      refine ⟨acc, i, h, Ev.step (f := fun _ => some _) (fun k => ?_) (Ev.now _), hi, by omega⟩
      simp only [spec_l8line.l0]
      rw [if_neg (by omega)]
    | succ d ih =>
      intro acc i h hd ha hi
      obtain ⟨s1, i1, g1, e1, p1, m1⟩ := text_ok hb i h [(⟨#[97]⟩ : ByteArray), (⟨#[97, 98]⟩ : ByteArray), (⟨#[51]⟩ : ByteArray), (⟨#[45, 50, 46, 53]⟩ : ByteArray), (⟨#[98]⟩ : ByteArray), (⟨#[120, 58, 121]⟩ : ByteArray), (⟨#[49, 48]⟩ : ByteArray)] hi (by simp)
      obtain ⟨s2, i2, g2, e2, p2, m2⟩ := text_ok hb i1 g1 [(⟨#[32]⟩ : ByteArray), (⟨#[32, 32]⟩ : ByteArray), (⟨#[9]⟩ : ByteArray), (⟨#[58]⟩ : ByteArray)] p1 (by simp)
      have z1 : s1.size ≤ 4 := by
        simp only [List.mem_cons, List.mem_nil_iff, or_false] at m1
        rcases m1 with rfl | rfl | rfl | rfl | rfl | rfl | rfl <;> decide
      have z2 : s2.size ≤ 2 := by
        simp only [List.mem_cons, List.mem_nil_iff, or_false] at m2
        rcases m2 with rfl | rfl | rfl | rfl <;> decide
      have zz : ((acc ++ s1) ++ s2).size = acc.size + s1.size + s2.size := by rw [ByteArray.size_append, ByteArray.size_append]
      have z3 : (acc ++ s1).size = acc.size + s1.size := ByteArray.size_append
      obtain ⟨s, i3, g3, e3, p3, p4⟩ := ih ((acc ++ s1) ++ s2) i2 g2 (by omega) (by omega) p2
      refine ⟨s, i3, g3, Ev.step (fun k => ?_) e3, p3, p4⟩
      simp only [spec_l8line.l0]
      rw [if_pos (by omega), e1]
      simp only [Option.bind_some]
      rw [if_pos (by omega), e2]
      simp only [Option.bind_some]
      rw [if_pos (by omega), wrap_id (by omega) (by omega), show ((d + 1 : Nat) : Int) - 1 = (d : Int) by omega]
  obtain ⟨x, i1, g1, e1, x0, x1, _, p1⟩ := below_ok b i h 6 hi hb
  have hx := x1 (by omega)
  obtain ⟨d, rfl⟩ := Int.eq_ofNat_of_zero_le x0
  obtain ⟨s, i2, g2, e2, p2, p3⟩ := loop d (⟨#[]⟩ : ByteArray) i1 g1 (by omega) (by show 0 + 10 * d ≤ 100; omega) p1
  refine ⟨s, i2, g2, Ev.congr (fun k => ?_) e2, p2, p3⟩
  unfold spec_l8line.f
  rw [e1]
  rfl
end
end Go.Proofs.YtlemhidllcbadaaDoor.PFnSplits
