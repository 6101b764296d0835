/- A drawn row of texts, a place and a text. -/
import Derived.Test.YtlemhidllcbadaaDoorXJoin
import Derived.Test.YtlemhidllcbadaaDoorPFnPutFieldsx
import Derived.Test.YtlemhidllcbadaaDoorLFnPutFieldsCur
import Derived.Test.YtlemhidllcbadaaDoorLFnPutFieldsOf
namespace Go.Proofs.YtlemhidllcbadaaDoor.PFnPutFields
set_option linter.unusedVariables false
set_option linter.unusedSimpArgs false
open Go.RowKit Go.Proofs.YtlemhidllcbadaaDoorW.PrintWords Go.Proofs.YtlemhidllcbadaaDoorW.PrintLast Go.Proofs.YtlemhidllcbadaaDoorW.PrintMore Go.Proofs.YtlemhidllcbadaaDoor.XL
theorem once_okP {b : List Int} (hb : b.length ≤ 140737488351232) (i h n : Int) (hi : 0 ≤ i) : ∃ x i' h', spec_l1Once.f b i h n = some (x, i', h') ∧ 0 ≤ i' := by
  obtain ⟨x, i1, g1, e1, _, _, _, p1⟩ := below_ok b i h n hi hb
  unfold spec_l1Once.f
  rw [e1]
  exact ⟨_, _, _, rfl, p1⟩
section
variable {b : List Int} (hb : b.length ≤ 140737488351232)
include hb
theorem pick_ok (i h : Int) (l : List Int) (hi : 0 ≤ i) (hl : 0 < l.length) : ∃ x i' h', spec_l1PickInt.f b i h l = some (x, i', h') ∧ 0 ≤ i' ∧ x ∈ l := by
  obtain ⟨x, i1, g1, e1, x0, x1, _, p1⟩ := below_ok b i h (l.length : Int) hi hb
  have hx := x1 (by omega)
  refine ⟨rd l x, i1, g1, ?_, p1, ?_⟩
  · unfold spec_l1PickInt.f
    rw [e1]
    simp only [Option.bind_some]
    rw [if_pos x0, if_pos hx]
  · unfold rd
    rw [List.getD_eq_getElem?_getD, List.getElem?_eq_getElem (show x.toNat < l.length by omega)]
    exact List.getElem_mem _
theorem list_ok (i h : Int) (hi : 0 ≤ i) : ∃ L i' h', Ev (fun k => spec_l8list.f k b i h) (L, i', h') ∧ 0 ≤ i' ∧ L.length ≤ 60 ∧ sumS L ≤ 1000 := by
  have loop : ∀ (d j n : Nat) (acc : List ByteArray) (i h : Int), j + d = n → n ≤ 52 → acc.length ≤ j → sumS acc ≤ 2 * j → 0 ≤ i →
      ∃ L i' h', Ev (fun k => spec_l8list.l0 k acc (n : Int) (j : Int) b i h) (L, i', h') ∧ 0 ≤ i' ∧ L.length ≤ 60 ∧ sumS L ≤ 1000 := by
    intro d
    induction d with
    | zero =>
      intro j n acc i h hj hn ha hs hi
      obtain ⟨x, i1, g1, e1, p1⟩ := once_okP hb i h 25 hi
      by_cases hx : x = true
      · obtain ⟨y, i2, g2, e2, y0, y1, _, p2⟩ := below_ok b i1 g1 4 p1 hb
        have hy := y1 (by omega)
        obtain ⟨m, rfl⟩ := Int.eq_ofNat_of_zero_le y0
        obtain ⟨s, i3, g3, e3, p3, z3⟩ := of_ok hb i2 g2 (500 - m) (⟨#[122]⟩ : ByteArray) p2 (by decide) (by decide) (by omega)
        have hsum : sumS (acc ++ [s]) = sumS acc + s.size := by simp [sumS]
        refine ⟨acc ++ [s], i3, g3, ev_use e3 (Ev.now (0 : Nat)) (fun k q1 _ => ?_), p3, by rw [List.length_append]; simp; omega, by omega⟩
        simp only [spec_l8list.l0]
        rw [if_neg (by omega), e1]
        simp only [Option.bind_some]
        rw [if_pos hx, e2]
        simp only [Option.bind_some]
        rw [wrap_id (by omega) (by omega), show (500 - (m : Int)) = ((500 - m : Nat) : Int) by omega, q1]
        simp only [Option.bind_some]
        rw [if_pos (by omega)]
      · refine ⟨acc, i1, g1, Ev.step (f := fun _ => some _) (fun k => ?_) (Ev.now _), p1, by omega, by omega⟩
        simp only [spec_l8list.l0]
        rw [if_neg (by omega), e1]
        simp only [Option.bind_some]
        rw [if_neg hx]
    | succ d ih =>
      intro j n acc i h hj hn ha hs hi
      obtain ⟨s, i1, g1, e1, p1, m1⟩ := text_ok hb i h [(⟨#[97]⟩ : ByteArray), (⟨#[]⟩ : ByteArray), (⟨#[98, 99]⟩ : ByteArray), (⟨#[49, 50]⟩ : ByteArray)] hi (by simp)
      have z1 : s.size ≤ 2 := by
        simp only [List.mem_cons, List.mem_nil_iff, or_false] at m1
        rcases m1 with rfl | rfl | rfl | rfl <;> decide
      have hsum : sumS (acc ++ [s]) = sumS acc + s.size := by simp [sumS]
      obtain ⟨L, i2, g2, e2, p2, p3, p4⟩ := ih (j + 1) n (acc ++ [s]) i1 g1 (by omega) hn (by rw [List.length_append]; simp; omega) (by omega) p1
      refine ⟨L, i2, g2, Ev.step (fun k => ?_) e2, p2, p3, p4⟩
      simp only [spec_l8list.l0]
      rw [if_pos (by omega), e1]
      simp only [Option.bind_some]
      rw [if_pos (by omega), wrap_nat1 j (by omega)]
  have go : ∀ (n : Nat) (i h : Int), n ≤ 52 → 0 ≤ i → ∃ L i' h', Ev (fun k => spec_l8list.j0 k ([] : List ByteArray) (n : Int) b i h) (L, i', h') ∧ 0 ≤ i' ∧ L.length ≤ 60 ∧ sumS L ≤ 1000 := by
    intro n i h hn hi
    obtain ⟨L, i2, g2, e2, p2, p3, p4⟩ := loop n 0 n [] i h (by omega) hn (by simp) (by simp [sumS]) hi
    exact ⟨L, i2, g2, Ev.step (fun k => by simp only [spec_l8list.j0]; rfl) e2, p2, p3, p4⟩
  obtain ⟨x, i1, g1, e1, x0, x1, _, p1⟩ := below_ok b i h 6 hi hb
  have hx := x1 (by omega)
  obtain ⟨y, i2, g2, e2, p2⟩ := once_okP hb i1 g1 20 p1
  by_cases hy : y = true
  · obtain ⟨z, i3, g3, e3, z0, z1, _, p3⟩ := below_ok b i2 g2 2 p2 hb
    have hz := z1 (by omega)
    obtain ⟨m, rfl⟩ := Int.eq_ofNat_of_zero_le z0
    obtain ⟨L, i4, g4, e4, p4, q1, q2⟩ := go (50 + m) i3 g3 (by omega) p3
    refine ⟨L, i4, g4, Ev.congr (fun k => ?_) e4, p4, q1, q2⟩
    unfold spec_l8list.f
    rw [e1]
    simp only [Option.bind_some]
    rw [e2]
    simp only [Option.bind_some]
    rw [if_pos hy, e3]
    simp only [Option.bind_some]
    rw [wrap_id (by omega) (by omega), show (50 + (m : Int)) = ((50 + m : Nat) : Int) by omega]
  · obtain ⟨m, rfl⟩ := Int.eq_ofNat_of_zero_le x0
    obtain ⟨L, i4, g4, e4, p4, q1, q2⟩ := go m i2 g2 (by omega) p2
    refine ⟨L, i4, g4, Ev.congr (fun k => ?_) e4, p4, q1, q2⟩
    unfold spec_l8list.f
    rw [e1]
    simp only [Option.bind_some]
    rw [e2]
    simp only [Option.bind_some]
    rw [if_neg hy]
theorem draw_put : ∃ L i s, Ev (fun k => spec_DrawPutField.f k b) (L, i, s) ∧ L.length ≤ 60 ∧ sumS L ≤ 1000 ∧ s.size ≤ 2 ∧ -1 ≤ i ∧ i ≤ 51 := by
  obtain ⟨h, K1, e1⟩ := new_ok b hb
  obtain ⟨L, i1, g1, ⟨K2, e2⟩, p1, q1, q2⟩ := list_ok hb 0 h (by omega)
  obtain ⟨i, i2, g2, e3, p2, m2⟩ := pick_ok hb i1 g1 [0, 1, 2, 3, 7, 50, 51, (-1)] p1 (by simp)
  obtain ⟨s, i3, g3, e4, p3, m3⟩ := text_ok hb i2 g2 [(⟨#[113]⟩ : ByteArray), (⟨#[]⟩ : ByteArray), (⟨#[49, 50]⟩ : ByteArray)] p2 (by simp)
  have z3 : s.size ≤ 2 := by
    simp only [List.mem_cons, List.mem_nil_iff, or_false] at m3
    rcases m3 with rfl | rfl | rfl <;> decide
  have zi : -1 ≤ i ∧ i ≤ 51 := by
    simp only [List.mem_cons, List.mem_nil_iff, or_false] at m2
    omega
  refine ⟨L, i, s, ⟨K1 + K2, fun k hk => ?_⟩, q1, q2, z3, zi.1, zi.2⟩
  show spec_DrawPutField.f k b = _
  unfold spec_DrawPutField.f
  rw [(show spec_l1New.f k b = _ from e1 k (by omega))]
  simp only [Option.bind_some]
  rw [(show spec_l8list.f k b 0 h = _ from e2 k (by omega))]
  simp only [Option.bind_some]
  rw [e3]
  simp only [Option.bind_some]
  rw [e4]
  rfl
end
end Go.Proofs.YtlemhidllcbadaaDoor.PFnPutFields
