/- For every text, the program's Lines and the reference's answer alike, in memory of their own. -/
import Derived.Test.YtegllcjlngdijaaDoorPFnExactLinesx2
import Derived.Test.YtegllcjlngdijaaDoorXLem
import Derived.Test.YtegllcjlngdijaaDoorXBa
import Derived.Test.YtegllcjlngdijaaDoorLFnExactLinesLinesS
import Derived.Test.YtegllcjlngdijaaDoorLFnExactLinesMarks
namespace Go.Proofs.YtegllcjlngdijaaDoor.Pure
set_option linter.unusedVariables false
set_option linter.unusedSimpArgs false
open Go.RowKit Go.Proofs.YtegllcjlngdijaaDoor.PFnExactLines Go.Proofs.YtegllcjlngdijaaDoorW.PrintWords Go.Proofs.YtegllcjlngdijaaDoorW.PrintLast Go.Proofs.YtegllcjlngdijaaDoorW.PrintMore Go.Proofs.YtegllcjlngdijaaDoor.XL

theorem FnExactLines : laws_FnExactLines.Pure := by
  intro s _
  have both : ∃ V, V.length ≤ 4000 ∧ impl_Lines.f s = some V ∧ Ev (fun k => spec_Lines.f k s) V := by
    by_cases hbig : (s.size : Int) > 3000
    · exact ⟨[], by simp, by unfold impl_Lines.f; rw [if_pos hbig], ⟨0, fun k _ => by show spec_Lines.f k s = _; unfold spec_Lines.f; rw [if_pos hbig]⟩⟩
    · obtain ⟨P, q, eP, hq, hno, eI, hP⟩ := lines_eq s (by omega)
      obtain ⟨P2, q2, eP2, hev⟩ := lines_spec (s := s) (by omega) s.size 0 0 [] (Nat.le_refl _) (Nat.zero_le _) (by omega) (by simp; omega)
      rw [eP] at eP2
      obtain ⟨h1, h2⟩ := List.append_inj' eP2 rfl
      have h3 : q = q2 := by simpa using h2
      subst h1
      subst h3
      rw [List.nil_append] at hev
      refine ⟨_, ?_, eI, Ev.congr (fun k => ?_) hev⟩
      · split
        · rw [List.length_map]; omega
        · rw [List.length_map, List.length_append]; simp; omega
      · unfold spec_Lines.f
        rw [if_neg hbig]
        rfl
  obtain ⟨V, hV, eI, K1, g1⟩ := both
  obtain ⟨L', ⟨K3, g3⟩, ⟨K4, g4⟩⟩ := marks_ok V (by omega)
  obtain ⟨K2, g2⟩ := eq_row V (by omega)
  have key : Ev (fun k => laws_FnExactLines.f k s) true := by
    by_cases hb : (s.size : Int) > 1048576
    · exact Ev.congr (f := fun _ => some true) (fun k => by unfold laws_FnExactLines.f; rw [if_pos hb]) (Ev.now _)
    · refine ⟨K1 + K2 + K3 + K4, fun k hk => ?_⟩
      have e1 : spec_Lines.f k s = _ := g1 k (by omega)
      have e2 : laws_eqStringS.f k V V = _ := g2 k (by omega)
      have e3 : laws_markStringS.f k V 1 = _ := g3 k (by omega)
      have e4 : laws_heldStringS.f k L' 1 = _ := g4 k (by omega)
      show laws_FnExactLines.f k s = _
      unfold laws_FnExactLines.f
      rw [if_neg hb, e1, Option.bind_some, eI, Option.bind_some, e2, Option.bind_some, if_pos (rfl : true = true), e3, Option.bind_some, e4, Option.bind_some, if_neg (by omega), if_pos rfl, Option.bind_some, e2, Option.bind_some, if_pos (rfl : true = true), Option.bind_some, if_neg (by omega), if_pos rfl]
  exact key.rounds

end Go.Proofs.YtegllcjlngdijaaDoor.Pure
