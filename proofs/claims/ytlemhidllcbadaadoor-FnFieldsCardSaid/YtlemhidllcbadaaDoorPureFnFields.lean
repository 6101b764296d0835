/- For every draw: the drawn text's fields in the program are the reference's, none has a white byte or is empty, and the fields of the joined fields are the same fields; no condition beyond the tied tables. -/
import Derived.Test.YtlemhidllcbadaaDoorPFnFieldsx3
import Derived.Test.YtlemhidllcbadaaDoorXLem
import Derived.Test.YtlemhidllcbadaaDoorXBa
import Derived.Test.YtlemhidllcbadaaDoorXJoin
import Derived.Test.YtlemhidllcbadaaDoorLFnFieldsCur
import Derived.Test.YtlemhidllcbadaaDoorLFnFieldsOnce
import Derived.Test.YtlemhidllcbadaaDoorLFnFieldsSame
import Derived.Test.YtlemhidllcbadaaDoorLFnFieldsSkip
import Derived.Test.YtlemhidllcbadaaDoorLFnFieldsFields
import Derived.Test.YtlemhidllcbadaaDoorLFnFieldsLawFields
namespace Go.Proofs.YtlemhidllcbadaaDoor.Pure
set_option linter.unusedVariables false
set_option linter.unusedSimpArgs false
open Go.RowKit Go.Proofs.YtlemhidllcbadaaDoor.PFnFields Go.Proofs.YtlemhidllcbadaaDoorW.PrintWords Go.Proofs.YtlemhidllcbadaaDoorW.PrintLast Go.Proofs.YtlemhidllcbadaaDoorW.PrintMore Go.Proofs.YtlemhidllcbadaaDoor.XL

section
variable {L : List ByteArray} (hg : ∀ y ∈ L, GoodY y ∧ y.size ≤ 1000) (hL : L.length ≤ 50) (hj : (joinV L).length ≤ 500) (hf : fieldsR (ba (joinV L)) = L)
include hg hL hj hf
theorem tail_l0 : ∀ (d i : Nat), i + d = L.length → Ev (fun k => laws_FnFields.l0 k L (i : Int)) true := by
  intro d
  induction d with
  | zero =>
    intro i h
    refine ev_use (same_row L (by omega)) alive (fun k g1 g2 => ?_)
    simp only [laws_FnFields.l0]
    rw [if_neg (by omega), join_impl L hL hj, Option.bind_some, impl_fields, hf, Option.bind_some, g1, Option.bind_some, if_pos (rfl : true = true), g2]
    rfl
  | succ d ih =>
    intro i h
    have hi : i < L.length := by omega
    have gi := hg L[i] (List.getElem_mem hi)
    have loop : ∀ (e j : Nat), j + e = L[i].size → Ev (fun k => laws_FnFields.l1 k L (i : Int) (j : Int)) true := by
      intro e
      induction e with
      | zero =>
        intro j hj'
        have hne : ¬ L[i].toList = [] := fun z => by
          have : L[i].data.toList.length = 0 := by rw [← toList_data, z]; rfl
          rw [Array.length_toList] at this
          have h0 := gi.1.1
          have : L[i].size = 0 := this
          omega
        refine Ev.step (fun k => ?_) (ih (i + 1) (by omega))
        simp only [laws_FnFields.l1]
        rw [if_pos (by omega), if_pos (by omega), rd_str L i hi, if_neg (by omega), if_neg hne, wrap_nat1 i (by omega)]
      | succ e ihe =>
        intro j hj'
        have hc := gi.1.2 j (by omega)
        have c32 : ¬ bt L[i] (j : Int) = 32 := fun z => by rw [z] at hc; exact absurd hc (by decide)
        have c9 : ¬ bt L[i] (j : Int) = 9 := fun z => by rw [z] at hc; exact absurd hc (by decide)
        have c10 : ¬ bt L[i] (j : Int) = 10 := fun z => by rw [z] at hc; exact absurd hc (by decide)
        refine Ev.step (fun k => ?_) (ihe (j + 1) (by omega))
        simp only [laws_FnFields.l1]
        rw [if_pos (by omega), if_pos (by omega), rd_str L i hi, if_pos (by omega), if_pos (by omega), if_neg c32, if_neg c9, if_neg c10, wrap_nat1 j (by omega)]
    refine Ev.step (fun k => ?_) (loop L[i].size 0 (by omega))
    simp only [laws_FnFields.l0]
    rw [if_pos (by omega)]
    rfl
end
theorem FnFields : laws_FnFields.Pure := by
  intro b h1 h2 h3
  obtain ⟨s, ⟨K1, e1⟩, hs⟩ := draw_fields (b := b) (by omega)
  have hgood : ∀ y ∈ fieldsR s, GoodY y ∧ y.size ≤ 1000 := fun y hy => by
    have hm : y ∈ fieldsV s := by
      unfold fieldsR at hy
      split at hy
      · cases hy
      · exact List.mem_of_mem_take hy
    refine ⟨fields_good s y hm, ?_⟩
    unfold fieldsV at hm
    obtain ⟨p, _, rfl⟩ := List.mem_map.1 hm
    rw [size_extract]
    omega
  have hjl := fieldsR_small s
  have hf : fieldsR (ba (joinV (fieldsR s))) = fieldsR s := by
    have e := fields_join (fieldsR s) (fun y hy => (hgood y hy).1)
    have : fieldsR (ba (joinV (fieldsR s))) = (fieldsV (ba (joinV (fieldsR s)))).take 50 := by
      show (if ((ba (joinV (fieldsR s))).size : Int) > 500 then [] else (fieldsV (ba (joinV (fieldsR s)))).take 50) = _
      rw [if_neg (by rw [ba_size]; omega)]
    rw [this, e, List.take_of_length_le (fieldsR_length s)]
  obtain ⟨K2, e2⟩ := spec_fields s
  obtain ⟨K3, e3⟩ := same_row (fieldsR s) (by have := fieldsR_length s; omega)
  obtain ⟨K4, e4⟩ := tail_l0 hgood (fieldsR_length s) hjl hf (fieldsR s).length 0 (by omega)
  refine ⟨K1 + K2 + K3 + K4, ?_⟩
  unfold laws_FnFields.f
  rw [(show spec_DrawFields.f _ b = _ from e1 (K1 + K2 + K3 + K4) (by omega)), Option.bind_some, impl_fields, Option.bind_some, (show spec_Fields.f _ s = _ from e2 (K1 + K2 + K3 + K4) (by omega)), Option.bind_some, (show laws_sameTexts.f _ _ _ = _ from e3 (K1 + K2 + K3 + K4) (by omega)), Option.bind_some, if_pos (rfl : true = true)]
  exact e4 (K1 + K2 + K3 + K4) (by omega)

end Go.Proofs.YtlemhidllcbadaaDoor.Pure
