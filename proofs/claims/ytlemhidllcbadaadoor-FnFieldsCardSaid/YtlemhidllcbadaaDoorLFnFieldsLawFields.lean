/- FnFields: fields have no whitespace, and put together they are the same fields. -/
import Derived.Test.YtlemhidllcbadaaDoorXJoin
import Derived.Test.YtlemhidllcbadaaDoorPFnFieldsx
import Derived.Test.YtlemhidllcbadaaDoorLFnFieldsCur
import Derived.Test.YtlemhidllcbadaaDoorLFnFieldsOnce
import Derived.Test.YtlemhidllcbadaaDoorLFnFieldsSame
import Derived.Test.YtlemhidllcbadaaDoorLFnFieldsSkip
import Derived.Test.YtlemhidllcbadaaDoorLFnFieldsFields
namespace Go.Proofs.YtlemhidllcbadaaDoor.PFnFields
set_option linter.unusedVariables false
set_option linter.unusedSimpArgs false
open Go.RowKit Go.Proofs.YtlemhidllcbadaaDoorW.PrintWords Go.Proofs.YtlemhidllcbadaaDoorW.PrintLast Go.Proofs.YtlemhidllcbadaaDoorW.PrintMore Go.Proofs.YtlemhidllcbadaaDoor.XL

def GoodY (y : ByteArray) : Prop := 0 < y.size ∧ ∀ j, j < y.size → isS (bt y (j : Int)) = false
theorem bs_good (s : ByteArray) : ∀ (d i : Nat) (st : Option Nat), i + d = s.size → (∀ a, st = some a → a < i ∧ ∀ j, a ≤ j → j < i → isS (bt s (j : Int)) = false) →
    ∀ p ∈ bs s d i st, p.1 < p.2 ∧ p.2 ≤ s.size ∧ ∀ j, p.1 ≤ j → j < p.2 → isS (bt s (j : Int)) = false := by
  intro d
  induction d with
  | zero =>
    intro i st h hst p hp
    cases st with
    | none => simp [bs] at hp
    | some a =>
      simp only [bs, List.mem_singleton] at hp
      subst hp
      exact ⟨(hst a rfl).1, by simp only; omega, (hst a rfl).2⟩
  | succ d ih =>
    intro i st h hst p hp
    cases hw : isS (bt s (i : Int)) with
    | true =>
      cases st with
      | none =>
        simp only [bs] at hp
        rw [if_pos hw] at hp
        exact ih (i + 1) none (by omega) (fun a z => by cases z) p hp
      | some a =>
        simp only [bs] at hp
        rw [if_pos hw] at hp
        rcases List.mem_cons.1 hp with rfl | hp
        · exact ⟨(hst a rfl).1, by simp only; omega, (hst a rfl).2⟩
        · exact ih (i + 1) none (by omega) (fun a z => by cases z) p hp
    | false =>
      have hw' : ¬ isS (bt s (i : Int)) = true := by rw [hw]; simp
      cases st with
      | none =>
        simp only [bs] at hp
        rw [if_neg hw'] at hp
        refine ih (i + 1) (some i) (by omega) (fun a z => ?_) p hp
        obtain rfl := Option.some.inj z
        exact ⟨by omega, fun j h1 h2 => by rw [show j = i by omega]; exact hw⟩
      | some a =>
        simp only [bs] at hp
        rw [if_neg hw'] at hp
        refine ih (i + 1) (some a) (by omega) (fun a' z => ?_) p hp
        obtain rfl := Option.some.inj z
        obtain ⟨g1, g2⟩ := hst a rfl
        refine ⟨by omega, fun j h1 h2 => ?_⟩
        by_cases hj : j = i
        · rw [hj]; exact hw
        · exact g2 j h1 (by omega)
theorem fields_good (s : ByteArray) : ∀ y ∈ fieldsV s, GoodY y := by
  intro y hy
  unfold fieldsV at hy
  obtain ⟨p, hp, rfl⟩ := List.mem_map.1 hy
  obtain ⟨h1, h2, h3⟩ := bs_good s s.size 0 none (by omega) (fun a z => by cases z) p hp
  have hz : (s.extract p.1 p.2).size = p.2 - p.1 := by rw [size_extract]; omega
  refine ⟨by omega, fun j hj => ?_⟩
  rw [bt_extract s p.1 p.2 j (by omega) (by omega)]
  have := h3 (p.1 + j) (by omega) (by omega)
  rwa [Int.natCast_add] at this
def wsum (l : List (Nat × Nat)) : Nat := (l.map fun p => p.2 - p.1 + 1).sum
theorem bs_sum (s : ByteArray) : ∀ (d i : Nat), wsum (bs s d i none) ≤ d + 1 ∧ ∀ a, a ≤ i → wsum (bs s d i (some a)) ≤ d + 1 + (i - a) := by
  intro d
  induction d with
  | zero =>
    intro i
    refine ⟨by simp [bs, wsum], fun a ha => ?_⟩
    simp [bs, wsum]
    omega
  | succ d ih =>
    intro i
    obtain ⟨h1, h2⟩ := ih (i + 1)
    refine ⟨?_, fun a ha => ?_⟩
    · simp only [bs]
      split
      · omega
      · have := h2 i (by omega); omega
    · simp only [bs]
      split
      · have : wsum ((a, i) :: bs s d (i + 1) none) = (i - a + 1) + wsum (bs s d (i + 1) none) := by simp [wsum]
        omega
      · have := h2 a (by omega); omega
theorem sum_ex (s : ByteArray) (l : List (Nat × Nat)) : (l.map fun x => s.extract x.1 x.2).length + sumS (l.map fun x => s.extract x.1 x.2) ≤ wsum l := by
  induction l with
  | nil => simp [sumS, wsum]
  | cons p l ih =>
    have hz : (s.extract p.1 p.2).size ≤ p.2 - p.1 := by rw [size_extract]; omega
    simp only [List.map_cons, List.length_cons, sumS, wsum, List.sum_cons] at ih ⊢
    omega
theorem fieldsR_small (s : ByteArray) : (joinV (fieldsR s)).length ≤ 500 := by
  by_cases h0 : fieldsR s = []
  · rw [h0]; simp [joinV, Lib.join]
  · have hj := join_less (fieldsR s) h0
    unfold fieldsR at hj h0 ⊢
    by_cases h : (s.size : Int) > 500
    · rw [if_pos h] at h0; exact absurd rfl h0
    · rw [if_neg h] at hj ⊢
      have h1 := sumS_take (fieldsV s) 50
      have h2 : ((fieldsV s).take 50).length ≤ (fieldsV s).length := by rw [List.length_take]; omega
      have h3 := sum_ex s (bs s s.size 0 none)
      have h4 := (bs_sum s s.size 0).1
      unfold fieldsV at h1 h2 hj ⊢
      omega
theorem bs_join (s' : ByteArray) : ∀ (l : List ByteArray) (x : ByteArray) (i : Nat), s'.data.toList.drop i = x.data.toList ++ tailJ l → (∀ y ∈ x :: l, GoodY y) →
    (bs s' ((tailJ l).length + x.size) i none).map (fun p => s'.extract p.1 p.2) = x :: l := by
  intro l
  induction l with
  | nil =>
    intro x i h hg
    have gx := hg x (by simp)
    have run := bs_run s' x.size (tailJ []).length i none gx.1 (fun j hj => by rw [bt_in h j hj]; exact gx.2 j hj)
    rw [run]
    simp only [tailJ, List.flatMap_nil, List.length_nil, bs, List.map_cons, List.map_nil, Option.getD_none]
    rw [extract_in h]
  | cons y l ih =>
    intro x i h hg
    have gx := hg x (by simp)
    have run := bs_run s' x.size (tailJ (y :: l)).length i none gx.1 (fun j hj => by rw [bt_in h j hj]; exact gx.2 j hj)
    rw [run, tailJ_cons]
    have hd : s'.data.toList.drop (i + x.size) = 32 :: y.data.toList ++ tailJ l := by
      rw [← List.drop_drop, h, ← data_size x, List.drop_left', tailJ_cons]
      rfl
    have h32 : isS (bt s' ((i + x.size : Nat) : Int)) = true := by
      have : bt s' ((i + x.size : Nat) : Int) = 32 := by
        rw [bt_getD, bytesOf_data]
        have e : (s'.data.toList.map fun b => (b.toNat : Int)).getD (i + x.size) 0 = ((s'.data.toList.drop (i + x.size)).map fun b => (b.toNat : Int)).getD 0 0 := by
          simp [List.getD_eq_getElem?_getD, List.getElem?_drop]
        rw [e, hd]
        rfl
      rw [this]; rfl
    have hl : (32 :: y.data.toList ++ tailJ l).length = ((tailJ l).length + y.size) + 1 := by
      rw [List.cons_append, List.length_cons, List.length_append, data_size]; omega
    rw [hl]
    simp only [bs, Option.getD_none]
    rw [if_pos h32, List.map_cons, extract_in h]
    congr 1
    refine ih y (i + x.size + 1) ?_ (fun z hz => hg z (by simp at hz ⊢; right; exact hz))
    rw [← List.drop_drop, hd]
    rfl
theorem fields_join (L : List ByteArray) (hg : ∀ y ∈ L, GoodY y) : fieldsV (ba (joinV L)) = L := by
  cases L with
  | nil => rfl
  | cons x l =>
    have := bs_join (ba (joinV (x :: l))) l x 0 (by rw [List.drop_zero, ba_data, join_cons]) hg
    unfold fieldsV
    have hz : (ba (joinV (x :: l))).size = (tailJ l).length + x.size := by rw [ba_size, join_cons, List.length_append, data_size]; omega
    rw [hz]
    exact this
theorem join_impl (L : List ByteArray) (h1 : L.length ≤ 50) (h2 : (joinV L).length ≤ 500) : impl_JoinFields.f L = some (ba (joinV L)) := by
  unfold impl_JoinFields.f impl_joinFields.f strings_Join.f
  have hb : L.length ≤ 140737488355328 ∧ (Lib.join (L.map (·.data.toList)) (⟨#[32]⟩ : ByteArray).data.toList).length ≤ 140737488355328 := ⟨by omega, by
    have : (joinV L).length ≤ 140737488355328 := by omega
    exact this⟩
  rw [if_neg (by omega), if_pos hb, Option.bind_some, Option.bind_some]
  show (if (decide (((ba (joinV L)).size : Int) ≤ 500)) = true then some (ba (joinV L)) else _) = _
  rw [ba_size, decide_eq_true (by omega), if_pos (rfl : true = true)]
theorem draw_fields {b : List Int} (hb : b.length ≤ 140737488351232) : ∃ s, Ev (fun k => spec_DrawFields.f k b) s ∧ s.size ≤ 1000 := by
  obtain ⟨h, K1, e1⟩ := new_ok b hb
  obtain ⟨x, i1, g1, e2, p1⟩ := once_ok hb 0 h 20 (by omega)
  by_cases hx : x = true
  · obtain ⟨y, i2, g2, e3, y0, y1, _, p2⟩ := below_ok b i1 g1 2 p1 hb
    have hy := y1 (by omega)
    obtain ⟨m, rfl⟩ := Int.eq_ofNat_of_zero_le y0
    obtain ⟨s, i3, g3, ⟨K2, e4⟩, p3, p4⟩ := of_ok hb i2 g2 (500 + m) (⟨#[97, 32]⟩ : ByteArray) p2 (by decide) (by decide) (by omega)
    refine ⟨s, ⟨K1 + K2, fun k hk => ?_⟩, by omega⟩
    show spec_DrawFields.f k b = _
    unfold spec_DrawFields.f
    rw [(show spec_l1New.f k b = _ from e1 k (by omega))]
    simp only [Option.bind_some]
    rw [e2]
    simp only [Option.bind_some]
    rw [if_pos hx, e3]
    simp only [Option.bind_some]
    rw [wrap_id (by omega) (by omega), show (500 + (m : Int)) = ((500 + m : Nat) : Int) by omega, (show spec_l1of.f k b i2 g2 ((500 + m : Nat) : Int) (⟨#[97, 32]⟩ : ByteArray) = _ from e4 k (by omega))]
    rfl
  · obtain ⟨s, i3, g3, ⟨K2, e4⟩, p3, p4⟩ := line_ok hb i1 g1 p1
    refine ⟨s, ⟨K1 + K2, fun k hk => ?_⟩, by omega⟩
    show spec_DrawFields.f k b = _
    unfold spec_DrawFields.f
    rw [(show spec_l1New.f k b = _ from e1 k (by omega))]
    simp only [Option.bind_some]
    rw [e2]
    simp only [Option.bind_some]
    rw [if_neg hx, (show spec_l8line.f k b i1 g1 = _ from e4 k (by omega))]
    rfl
end Go.Proofs.YtlemhidllcbadaaDoor.PFnFields
