/- For every draw: the drawn text's parts in the program are the reference's, and with what parted them between them they are the text, as long as there are not too many; no condition beyond the tied tables. -/
import Derived.Test.YtlemhidllcbadaaDoorPFnSplitsx4
import Derived.Test.YtlemhidllcbadaaDoorXLem
import Derived.Test.YtlemhidllcbadaaDoorXBa
import Derived.Test.YtlemhidllcbadaaDoorXJoin
import Derived.Test.YtlemhidllcbadaaDoorXSplit
import Derived.Test.YtlemhidllcbadaaDoorLFnSplitsCur
import Derived.Test.YtlemhidllcbadaaDoorLFnSplitsOnce
import Derived.Test.YtlemhidllcbadaaDoorLFnSplitsSame
import Derived.Test.YtlemhidllcbadaaDoorLFnSplitsSkip
import Derived.Test.YtlemhidllcbadaaDoorLFnSplitsFields
import Derived.Test.YtlemhidllcbadaaDoorLFnSplitsSplitBy
import Derived.Test.YtlemhidllcbadaaDoorLFnSplitsDrawFields
namespace Go.Proofs.YtlemhidllcbadaaDoor.Pure
set_option linter.unusedVariables false
set_option linter.unusedSimpArgs false
open Go.RowKit Go.Proofs.YtlemhidllcbadaaDoor.PFnSplits Go.Proofs.YtlemhidllcbadaaDoorW.PrintWords Go.Proofs.YtlemhidllcbadaaDoorW.PrintLast Go.Proofs.YtlemhidllcbadaaDoorW.PrintMore Go.Proofs.YtlemhidllcbadaaDoor.XL

def sepTail (sep : ByteArray) (L : List ByteArray) : List UInt8 := L.flatMap fun x => sep.data.toList ++ x.data.toList
theorem sepTail_drop (sep : ByteArray) (L : List ByteArray) (i : Nat) (h : i < L.length) : sepTail sep (L.drop i) = (sep.data.toList ++ L[i].data.toList) ++ sepTail sep (L.drop (i + 1)) := by
  unfold sepTail
  rw [List.drop_eq_getElem_cons h, List.flatMap_cons]
def joined (sep : ByteArray) : List ByteArray → List UInt8
  | [] => []
  | x :: l => x.data.toList ++ sepTail sep l
theorem sepTail_cons (sep x : ByteArray) (l : List ByteArray) : sepTail sep (x :: l) = (sep.data.toList ++ x.data.toList) ++ sepTail sep l := by unfold sepTail; rw [List.flatMap_cons]
theorem joined_cons (sep x : ByteArray) (l : List ByteArray) : joined sep (x :: l) = x.data.toList ++ sepTail sep l := rfl
theorem joined_ends (sep x : ByteArray) (l : List ByteArray) : (x :: l).flatMap (fun y => y.data.toList ++ sep.data.toList) = joined sep (x :: l) ++ sep.data.toList := by
  induction l generalizing x with
  | nil => simp [joined, sepTail]
  | cons y l ih =>
    rw [List.flatMap_cons, ih y, joined_cons, joined_cons, sepTail_cons]
    simp only [List.append_assoc]
theorem sepTail_length (sep : ByteArray) (hs : sep.size ≤ 10) (L : List ByteArray) (h : ∀ x ∈ L, x.size ≤ 1000) : (sepTail sep L).length ≤ 1010 * L.length := by
  induction L with
  | nil => simp [sepTail]
  | cons x l ih =>
    have h1 := ih (fun y hy => h y (by simp [hy]))
    have h2 := h x (by simp)
    have : sepTail sep (x :: l) = (sep.data.toList ++ x.data.toList) ++ sepTail sep l := by unfold sepTail; rw [List.flatMap_cons]
    rw [this, List.length_append, List.length_append, data_size, data_size, List.length_cons]
    omega
section
variable {s sep : ByteArray} {L : List ByteArray} (hL : L.length ≤ 50) (hx : ∀ x ∈ L, x.size ≤ 1000) (hsep : sep.size ≤ 10)
  (good : joined sep L = s.data.toList ∨ L.length = 50 ∨ (s.size : Int) > 500)
include good in
theorem splits_fin : Ev (fun k => laws_FnSplits.l0 k s sep L (ba (joined sep L)) (L.length : Int)) true := by
  refine ev_use alive (Ev.now (0 : Nat)) (fun k g1 _ => ?_)
  simp only [laws_FnSplits.l0]
  rw [if_neg (by omega), toList_data, toList_data, ba_data, g1, Option.bind_some]
  by_cases h1 : joined sep L = s.data.toList
  · rw [if_pos h1]
  · rw [if_neg h1]
    by_cases h2 : (L.length : Int) = 50
    · rw [if_pos h2]
    · rw [if_neg h2]
      have h3 : (s.size : Int) > 500 := by
        rcases good with z | z | z
        · exact absurd z h1
        · omega
        · exact z
      rw [if_pos h3]
include hL hx hsep good
theorem splits_loop : ∀ (d i : Nat) (acc : List UInt8), i + d = L.length → 1 ≤ i → acc.length ≤ 1010 * i → acc ++ sepTail sep (L.drop i) = joined sep L → Ev (fun k => laws_FnSplits.l0 k s sep L (ba acc) (i : Int)) true := by
  intro d
  induction d with
  | zero =>
    intro i acc h h1 hz ha
    have e : i = L.length := by omega
    subst e
    rw [List.drop_of_length_le (Nat.le_refl _)] at ha
    have : acc = joined sep L := by rw [← ha]; simp [sepTail]
    rw [this]
    exact splits_fin good
  | succ d ih =>
    intro i acc h h1 hz ha
    have hi : i < L.length := by omega
    have hxi := hx L[i] (List.getElem_mem hi)
    rw [sepTail_drop sep L i hi, ← List.append_assoc, ← List.append_assoc] at ha
    refine Ev.step (fun k => ?_) (ih (i + 1) (acc ++ sep.data.toList ++ L[i].data.toList) (by omega) (by omega) (by rw [List.length_append, List.length_append, data_size, data_size]; omega) ha)
    simp only [laws_FnSplits.l0]
    rw [if_pos (by omega), if_pos (by omega), ba_size, if_pos (by omega), if_pos (by omega), rd_str L i hi, ba_append_of, ba_size, if_pos (by rw [List.length_append, data_size]; omega), ba_append_of, wrap_nat1 i (by omega)]
theorem splits_all : Ev (fun k => laws_FnSplits.l0 k s sep L (⟨#[]⟩ : ByteArray) 0) true := by
  cases hLe : L with
  | nil =>
    have := splits_fin (s := s) (sep := sep) (L := L) good
    rw [hLe] at this
    exact this
  | cons x l =>
    have hlen : L.length = l.length + 1 := by rw [hLe]; rfl
    have hxx : x.size ≤ 1000 := hx x (by rw [hLe]; simp)
    have hl := splits_loop hL hx hsep good l.length 1 x.data.toList (by omega) (by omega) (by rw [data_size]; omega) (by rw [hLe]; rfl)
    rw [hLe] at hl
    refine Ev.step (fun k => ?_) hl
    simp only [laws_FnSplits.l0]
    rw [if_pos (by rw [List.length_cons]; omega), if_neg (by omega), if_pos (by omega), show rdOf ByteArray.empty (x :: l) 0 = x from rfl, show (⟨#[]⟩ : ByteArray) = ba [] from rfl, ba_size, if_pos (by rw [List.length_nil]; omega), ba_append_of, List.nil_append, show wrap64 (0 + 1) = ((1 : Nat) : Int) from wrap_nat1 0 (by omega)]
end
theorem FnSplits : laws_FnSplits.Pure := by
  intro b h1 h2 h3
  obtain ⟨s, ⟨K1, e1⟩, hs⟩ := draw_fields (b := b) (by omega)
  obtain ⟨h, K2, e2⟩ := new_ok b (by omega)
  obtain ⟨sep, i1, g1, e3, p1, m1⟩ := text_ok (b := b) (by omega) 0 h [(⟨#[32]⟩ : ByteArray), (⟨#[58]⟩ : ByteArray), (⟨#[]⟩ : ByteArray), (⟨#[97]⟩ : ByteArray), (⟨#[58, 58]⟩ : ByteArray), (⟨#[32, 32]⟩ : ByteArray)] (by omega) (by simp)
  have hsep : sep.size ≤ 2 := by
    simp only [List.mem_cons, List.mem_nil_iff, or_false] at m1
    rcases m1 with rfl | rfl | rfl | rfl | rfl | rfl <;> decide
  have hdraw : ∀ k, K1 + K2 ≤ k → spec_DrawSplitBy.f k b = some (s, sep) := fun k hk => by
    unfold spec_DrawSplitBy.f
    rw [(show spec_l1New.f k b = _ from e2 k (by omega))]
    simp only [Option.bind_some]
    rw [(show spec_DrawFields.f k b = _ from e1 k (by omega)), Option.bind_some, e3]
    rfl
  have hlen := splitV_length s sep
  obtain ⟨K3, e4⟩ := spec_split s sep (by omega)
  obtain ⟨K4, e5⟩ := same_row (splitV s sep) (by omega)
  by_cases h32 : sep.toList = [32]
  · have hv : splitV s sep = fieldsR s := by unfold splitV; rw [if_pos h32]
    obtain ⟨K5, e6⟩ := alive
    refine ⟨K1 + K2 + K3 + K4 + K5 + 1, ?_⟩
    unfold laws_FnSplits.f
    rw [hdraw _ (by omega)]
    simp only [Option.bind_some]
    rw [impl_split s sep (by omega), Option.bind_some, (show spec_SplitBy.f _ s sep = _ from e4 (K1 + K2 + K3 + K4 + K5 + 1) (by omega)), Option.bind_some, (show laws_sameTexts.f _ _ _ = _ from e5 (K1 + K2 + K3 + K4 + K5 + 1) (by omega)), Option.bind_some, if_pos (rfl : true = true), if_pos h32, impl_fields, Option.bind_some, ← hv, (show laws_sameTexts.f _ _ _ = _ from e5 (K1 + K2 + K3 + K4 + K5 + 1) (by omega)), Option.bind_some, if_pos (rfl : true = true), (show laws_lines.f _ = _ from e6 (K1 + K2 + K3 + K4 + K5 + 1) (by omega))]
    rfl
  · have hx : ∀ x ∈ splitV s sep, x.size ≤ 1000 := by
      intro x hxm
      unfold splitV at hxm
      rw [if_neg h32] at hxm
      split at hxm
      · cases hxm
      · split at hxm
        · simp only [List.mem_singleton] at hxm; rw [hxm]; omega
        · obtain ⟨p, _, rfl⟩ := List.mem_map.1 (List.mem_of_mem_take hxm)
          unfold exP; rw [size_extract]; omega
    have good : joined sep (splitV s sep) = s.data.toList ∨ (splitV s sep).length = 50 ∨ (s.size : Int) > 500 := by
      unfold splitV
      rw [if_neg h32]
      by_cases hb : (s.size : Int) > 500
      · exact Or.inr (Or.inr hb)
      · by_cases hz : s.size = 0
        · left
          rw [if_pos (Or.inr hz)]
          exact (List.eq_nil_of_length_eq_zero (by rw [data_size]; exact hz)).symm
        · rw [if_neg (show ¬ ((s.size : Int) > 500 ∨ s.size = 0) by omega)]
          by_cases hm : sep.size = 0
          · left
            rw [if_pos hm]
            simp [joined, sepTail]
          · rw [if_neg hm]
            by_cases h50 : ((spl s sep s.size 0 0).map (exP s)).length ≤ 50
            · left
              rw [List.take_of_length_le h50]
              have ht := spl_text s sep (by omega) s.size 0 0 (Nat.le_refl _) (Nat.zero_le _) (by omega)
              rw [List.drop_zero] at ht
              have hm2 : ((spl s sep s.size 0 0).map (exP s)).flatMap (fun y => y.data.toList ++ sep.data.toList) = s.data.toList ++ sep.data.toList := by
                rw [List.flatMap_map]; exact ht
              cases hc : (spl s sep s.size 0 0).map (exP s) with
              | nil =>
                rw [hc] at hm2
                have := congrArg List.length hm2
                rw [List.length_append, data_size, data_size] at this
                simp at this
                omega
              | cons x l =>
                rw [hc, joined_ends] at hm2
                exact List.append_cancel_right hm2
            · right; left
              rw [List.length_take]; omega
    obtain ⟨K5, e6⟩ := splits_all (s := s) hlen hx (by omega) good
    refine ⟨K1 + K2 + K3 + K4 + K5 + 1, ?_⟩
    unfold laws_FnSplits.f
    rw [hdraw _ (by omega)]
    simp only [Option.bind_some]
    rw [impl_split s sep (by omega), Option.bind_some, (show spec_SplitBy.f _ s sep = _ from e4 (K1 + K2 + K3 + K4 + K5 + 1) (by omega)), Option.bind_some, (show laws_sameTexts.f _ _ _ = _ from e5 (K1 + K2 + K3 + K4 + K5 + 1) (by omega)), Option.bind_some, if_pos (rfl : true = true), if_neg h32]
    exact e6 (K1 + K2 + K3 + K4 + K5 + 1) (by omega)

end Go.Proofs.YtlemhidllcbadaaDoor.Pure
