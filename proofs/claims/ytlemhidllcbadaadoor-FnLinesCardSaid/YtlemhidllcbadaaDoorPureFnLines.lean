/- For every draw: the drawn text's lines in the program with an end behind each are the text, or the text with one end more where it does not end in one (of a text that is too long there are none); no condition beyond the tied tables. -/
import Derived.Test.YtlemhidllcbadaaDoorPFnLinesx3
import Derived.Test.YtlemhidllcbadaaDoorXLem
import Derived.Test.YtlemhidllcbadaaDoorXBa
import Derived.Test.YtlemhidllcbadaaDoorXJoin
import Derived.Test.YtlemhidllcbadaaDoorXSplit
import Derived.Test.YtlemhidllcbadaaDoorLFnLinesCur
import Derived.Test.YtlemhidllcbadaaDoorLFnLinesOnce
import Derived.Test.YtlemhidllcbadaaDoorLFnLinesSame
import Derived.Test.YtlemhidllcbadaaDoorLFnLinesInput
import Derived.Test.YtlemhidllcbadaaDoorLFnLinesLinesV
namespace Go.Proofs.YtlemhidllcbadaaDoor.Pure
set_option linter.unusedVariables false
set_option linter.unusedSimpArgs false
open Go.RowKit Go.Proofs.YtlemhidllcbadaaDoor.PFnLines Go.Proofs.YtlemhidllcbadaaDoorW.PrintWords Go.Proofs.YtlemhidllcbadaaDoorW.PrintLast Go.Proofs.YtlemhidllcbadaaDoorW.PrintMore Go.Proofs.YtlemhidllcbadaaDoor.XL

def withEnds (L : List ByteArray) : List UInt8 := L.flatMap fun x => x.data.toList ++ [10]
theorem withEnds_drop (L : List ByteArray) (i : Nat) (h : i < L.length) : withEnds (L.drop i) = (L[i].data.toList ++ [10]) ++ withEnds (L.drop (i + 1)) := by
  unfold withEnds
  rw [List.drop_eq_getElem_cons h, List.flatMap_cons]
theorem ends_length (L : List ByteArray) (i : Nat) (h : i < L.length) (t acc : List UInt8) (ht : acc ++ withEnds (L.drop i) = t) : acc.length + L[i].size + 1 ≤ t.length := by
  rw [withEnds_drop L i h] at ht
  have := congrArg List.length ht
  simp only [List.length_append, List.length_singleton, data_size] at this
  omega
theorem lines_loop {s : ByteArray} {L : List ByteArray} {t : List UInt8} (hL : L.length ≤ 1000000) (ht : t.length ≤ 1000000)
    (fin : Ev (fun k => laws_FnLines.l0 k s L (ba t) (L.length : Int)) true) : ∀ (d i : Nat) (acc : List UInt8), i + d = L.length → acc ++ withEnds (L.drop i) = t → Ev (fun k => laws_FnLines.l0 k s L (ba acc) (i : Int)) true := by
  intro d
  induction d with
  | zero =>
    intro i acc h ha
    have e : i = L.length := by omega
    subst e
    rw [List.drop_of_length_le (Nat.le_refl _)] at ha
    have : acc = t := by rw [← ha]; simp [withEnds]
    rw [this]
    exact fin
  | succ d ih =>
    intro i acc h ha
    have hi : i < L.length := by omega
    have hz := ends_length L i hi t acc ha
    rw [withEnds_drop L i hi, ← List.append_assoc, ← List.append_assoc] at ha
    refine Ev.step (fun k => ?_) (ih (i + 1) (acc ++ L[i].data.toList ++ [10]) (by omega) ha)
    simp only [laws_FnLines.l0]
    rw [if_pos (by omega), if_pos (by omega), rd_str L i hi, ba_size, if_pos (by omega), ba_append_of, ba_size, if_pos (by rw [List.length_append, data_size]; omega), show (⟨#[10]⟩ : ByteArray) = ba [10] from rfl, ba_append, wrap_nat1 i (by omega)]
theorem FnLines : laws_FnLines.Pure := by
  intro b h1 h2 h3
  obtain ⟨s, ⟨K1, e1⟩, hs⟩ := draw_lines (b := b) (by omega)
  by_cases hbig : (s.size : Int) > 3000
  · obtain ⟨K2, e2⟩ := alive
    refine ⟨K1 + K2, ?_⟩
    unfold laws_FnLines.f
    rw [(show spec_DrawLines.f _ b = _ from e1 (K1 + K2) (by omega)), Option.bind_some]
    unfold impl_Lines.f
    rw [if_pos hbig, Option.bind_some, if_pos hbig, if_pos (by rfl), (show laws_lines.f _ = _ from e2 (K1 + K2) (by omega))]
    rfl
  · obtain ⟨P, q, eP, hq, hno, eI, hP⟩ := lines_eq s (by omega)
    have htext := spl_text s nl (by decide) s.size 0 0 (Nat.le_refl _) (Nat.zero_le _) (by omega)
    rw [eP, List.drop_zero] at htext
    have main : ∃ L t, impl_Lines.f s = some L ∧ withEnds L = t ∧ L.length ≤ 1000000 ∧ (t = s.data.toList ∨ (t = s.data.toList ++ [10] ∧ 0 < s.size ∧ ¬ bt s ((s.size - 1 : Nat) : Int) = 10)) := by
      refine ⟨_, _, eI, rfl, ?_, ?_⟩
      · split
        · rw [List.length_map]; omega
        · rw [List.length_map, List.length_append]; simp; omega
      · have conv : ∀ Q : List (Nat × Nat), withEnds (Q.map (exP s)) = Q.flatMap (fun p => (exP s p).data.toList ++ nl.data.toList) := fun Q => by
          unfold withEnds
          rw [List.flatMap_map]
          rfl
        by_cases hqs : q = s.size
        · rw [if_pos hqs, conv]
          left
          rw [List.flatMap_append] at htext
          have hz : (exP s (q, s.size)).data.toList = [] := by
            apply List.eq_nil_of_length_eq_zero
            rw [data_size]; unfold exP; rw [size_extract]; omega
          simp only [List.flatMap_cons, List.flatMap_nil, List.append_nil, hz, List.nil_append] at htext
          exact List.append_cancel_right htext
        · rw [if_neg hqs, conv]
          right
          refine ⟨htext, by omega, fun z => ?_⟩
          have := hno (s.size - 1) (by omega)
          rw [show nl = (⟨#[10]⟩ : ByteArray) from rfl, hit_ten s (s.size - 1) (by omega), z] at this
          exact absurd this (by decide)
    obtain ⟨L, t, eL, et, hL, hcase⟩ := main
    have htl : t.length ≤ 4001 := by
      rcases hcase with rfl | ⟨rfl, _, _⟩
      · rw [data_size]; omega
      · rw [List.length_append, data_size]; simp; omega
    have fin : Ev (fun k => laws_FnLines.l0 k s L (ba t) (L.length : Int)) true := by
      refine ev_use alive (Ev.now (0 : Nat)) (fun k g1 _ => ?_)
      simp only [laws_FnLines.l0]
      rw [if_neg (by omega), toList_data, toList_data, ba_data]
      rcases hcase with hc | ⟨hc, h0, hl⟩
      · rw [if_pos hc, g1]; rfl
      · have hne : ¬ t = s.data.toList := fun z => by
          have := congrArg List.length (z.symm.trans hc)
          simp at this
        have happ : (s ++ (⟨#[10]⟩ : ByteArray)).toList = s.data.toList ++ [10] := by rw [toList_data]; simp
        rw [if_neg hne, if_pos (by omega), happ, if_pos hc, wrap_id (n := (s.size : Int) - 1) (by omega) (by omega), if_pos (by omega), if_pos (by omega), show (s.size : Int) - 1 = ((s.size - 1 : Nat) : Int) by omega, if_neg hl, g1]
        rfl
    obtain ⟨K2, e2⟩ := lines_loop hL (by omega) fin L.length 0 [] (by omega) (by rw [List.drop_zero, List.nil_append]; exact et)
    refine ⟨K1 + K2, ?_⟩
    unfold laws_FnLines.f
    rw [(show spec_DrawLines.f _ b = _ from e1 (K1 + K2) (by omega)), Option.bind_some, eL, Option.bind_some, if_neg hbig]
    exact e2 (K1 + K2) (by omega)

end Go.Proofs.YtlemhidllcbadaaDoor.Pure
