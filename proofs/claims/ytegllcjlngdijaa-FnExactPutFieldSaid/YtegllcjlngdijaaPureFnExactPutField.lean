/- For all rows of texts, places and texts, the program's PutField and the reference's answer alike, in memory of their own. -/
import Derived.Test.YtegllcjlngdijaaPFnExactPutFieldx3
import Derived.Test.YtegllcjlngdijaaXBa
import Derived.Test.YtegllcjlngdijaaXJoin
import Derived.Test.YtegllcjlngdijaaLFnExactPutFieldStrs
import Derived.Test.YtegllcjlngdijaaLFnExactPutFieldPut
import Derived.Test.YtegllcjlngdijaaLFnExactPutFieldMarks
namespace Go.Proofs.Ytegllcjlngdijaa.Pure
set_option linter.unusedVariables false
set_option linter.unusedSimpArgs false
open Go.RowKit Go.Proofs.Ytegllcjlngdijaa.PFnExactPutField Go.Proofs.YtegllcjlngdijaaW.PrintWords Go.Proofs.YtegllcjlngdijaaW.PrintLast Go.Proofs.YtegllcjlngdijaaW.PrintMore Go.Proofs.Ytegllcjlngdijaa.XL

theorem putV_length (L : List ByteArray) (i : Int) (s : ByteArray) : (putV L i s).1.length ≤ 100 := by
  unfold putV
  by_cases h : (1 ≤ i ∧ i ≤ 50) ∧ L.length ≤ 50
  · rw [if_pos h]
    have := put_length L i.toNat s
    split
    · show (put L i.toNat s).length ≤ 100; omega
    · simp
  · rw [if_neg h]; simp
theorem FnExactPutField : laws_FnExactPutField.Pure := by
  intro L i s h1 h2 h3 _ _
  obtain ⟨r, e, hr, _⟩ := sz_strs L (by omega) h3 1048576 (by omega) (by omega)
  have key : Ev (fun k => laws_FnExactPutField.f k L i s) true := by
    by_cases hs : (s.size : Int) > 1048576
    · exact Ev.congr (f := fun _ => some true) (fun k => by unfold laws_FnExactPutField.f; rw [if_pos hs]) (Ev.now _)
    · by_cases hb : r < 0
      · refine ev_use1 e (fun k g1 => ?_)
        unfold laws_FnExactPutField.f
        rw [if_neg hs, g1, Option.bind_some, if_pos hb]
      · have hr' := hr hb
        have hs2 : XL.sumS L = PFnExactPutField.sumS L := rfl
        have hv := putV_length L i s
        obtain ⟨K1, g1⟩ := e
        obtain ⟨K2, g2⟩ := to_strs L (by omega)
        obtain ⟨K3, g3⟩ := spec_put (L := L) (s := s) (by omega) i (by omega)
        obtain ⟨K4, g4⟩ := impl_put (L := L) (s := s) (by omega) i (by omega)
        obtain ⟨K5, g5⟩ := eq_row (putV L i s).1 (by omega)
        obtain ⟨K6, g6⟩ := eq_row L (by omega)
        obtain ⟨LA, ⟨K7, g7⟩, _⟩ := marks_ok L (by omega)
        obtain ⟨LB, ⟨K8, g8⟩, ⟨K9, g9⟩⟩ := marks_ok (putV L i s).1 (by omega)
        generalize putV L i s = V at *
        refine ⟨K1 + K2 + K3 + K4 + K5 + K6 + K7 + K8 + K9 + 3, fun k hk => ?_⟩
        obtain ⟨k, rfl⟩ : ∃ m, k = m + 3 := ⟨k - 3, by omega⟩
        have j2 : laws_FnExactPutField.j2 (k + 1) LB (((1 + V.1.length : Nat) : Int)) false = some true := by
          have e9 : laws_heldStringS.f k LB 1 = _ := g9 k (by omega)
          simp only [laws_FnExactPutField.j2]
          rw [if_neg (by simp), e9, Option.bind_some, if_neg (by omega), if_pos (by trivial)]
        have j1 : laws_FnExactPutField.j1 (k + 2) L i s V.1 V.2 V.1 false = some true := by
          have e2 : laws_toStringS.f (k + 1) L = _ := g2 (k + 1) (by omega)
          have e4 : impl_PutField.f (k + 1) L i s = _ := g4 (k + 1) (by omega)
          have e5 : laws_eqStringS.f (k + 1) V.1 V.1 = _ := g5 (k + 1) (by omega)
          have e8 : laws_markStringS.f (k + 1) V.1 1 = _ := g8 (k + 1) (by omega)
          have e9 : laws_heldStringS.f (k + 1) LB 1 = _ := g9 (k + 1) (by omega)
          simp only [laws_FnExactPutField.j1]
          rw [if_neg (by simp), e8, Option.bind_some, e9, Option.bind_some, if_neg (by omega), if_pos (by trivial), e2, Option.bind_some, e4, Option.bind_some, e5, Option.bind_some, if_pos (by trivial), show (V.2 != V.2) = false by simp]
          exact j2
        have j0 : laws_FnExactPutField.j0 (k + 3) L i s V.1 V.2 L V.1 V.2 false = some true := by
          have e2 : laws_toStringS.f (k + 2) L = _ := g2 (k + 2) (by omega)
          have e5 : laws_eqStringS.f (k + 2) V.1 V.1 = _ := g5 (k + 2) (by omega)
          have e6 : laws_eqStringS.f (k + 2) L L = _ := g6 (k + 2) (by omega)
          have e7 : laws_markStringS.f (k + 2) L 1 = _ := g7 (k + 2) (by omega)
          simp only [laws_FnExactPutField.j0]
          rw [if_neg (by simp), e2, Option.bind_some, e6, Option.bind_some, if_pos (by trivial), e7, Option.bind_some, if_neg (by omega), e5, Option.bind_some, if_pos (by trivial), show (V.2 != V.2) = false by simp]
          exact j1
        have e1 : laws_szStringS.f (k + 3) L 1048576 = _ := g1 (k + 3) (by omega)
        have e2 : laws_toStringS.f (k + 3) L = _ := g2 (k + 3) (by omega)
        have e3 : spec_PutField.f (k + 3) L i s = _ := g3 (k + 3) (by omega)
        have e4 : impl_PutField.f (k + 3) L i s = _ := g4 (k + 3) (by omega)
        have e5 : laws_eqStringS.f (k + 3) V.1 V.1 = _ := g5 (k + 3) (by omega)
        show laws_FnExactPutField.f (k + 3) L i s = _
        unfold laws_FnExactPutField.f
        rw [if_neg hs, e1, Option.bind_some, if_neg hb, e2, Option.bind_some, e3, Option.bind_some, Option.bind_some, e4, Option.bind_some, e5, Option.bind_some, if_pos (rfl : true = true), show (V.2 != V.2) = false by simp]
        exact j0
  exact key.rounds

end Go.Proofs.Ytegllcjlngdijaa.Pure
