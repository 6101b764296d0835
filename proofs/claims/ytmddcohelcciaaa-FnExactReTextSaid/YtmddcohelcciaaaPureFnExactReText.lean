/- FnExactReText: an equivalent regular expression is told alike on both sides. -/
import Derived.Test.YtmddcohelcciaaaPFnExactReTextx13
import Derived.Test.YtmddcohelcciaaaXLem
import Derived.Test.YtmddcohelcciaaaLFnExactReTextReRow
import Derived.Test.YtmddcohelcciaaaLFnExactReTextReOk
import Derived.Test.YtmddcohelcciaaaLFnExactReTextReOkMain
import Derived.Test.YtmddcohelcciaaaLFnExactReTextReSet
import Derived.Test.YtmddcohelcciaaaLFnExactReTextReTree
namespace Go.Proofs.Ytmddcohelcciaaa.Pure
set_option linter.unusedVariables false
set_option linter.unusedSimpArgs false
open Go.RowKit Go.Proofs.Ytmddcohelcciaaa.PFnExactReText Go.Proofs.YtmddcohelcciaaaW.PrintWords Go.Proofs.YtmddcohelcciaaaW.PrintLast Go.Proofs.YtmddcohelcciaaaW.PrintMore Go.Proofs.Ytmddcohelcciaaa.XL

theorem FnExactReText : laws_FnExactReText.Pure := by
  intro L h1 h2
  obtain ⟨r, e, hr, _⟩ := sz_row L h1 (fun x hx => ⟨(h2 x hx).2.1, (h2 x hx).2.2.1⟩) 1048576 (by omega) (by omega)
  have key : Ev (fun k => laws_FnExactReText.f k L) true := by
    by_cases hb : r < 0
    · refine ev_use1 e (fun k g1 => ?_)
      unfold laws_FnExactReText.f
      rw [g1, Option.bind_some, if_pos hb]
    · have hr' := hr hb
      have hl : (L.map toI).length = L.length := List.length_map _
      have hw : ∀ x ∈ L.map toI, x.f2.size ≤ 1048576 ∧ x.f3.length ≤ 1048576 := by
        intro x hx
        have := sumW_mem hx
        unfold wt at this
        omega
      have hw2 : ∀ x ∈ L, x.f3.length ≤ 1048576 := fun x hx => (hw (toI x) (List.mem_map_of_mem hx)).2
      obtain ⟨v, j1, j2⟩ := text_same (L.map toI) (by omega) hw (by have := kidsN_le (L.map toI); omega)
      obtain ⟨K1, g1⟩ := e
      obtain ⟨K2, g2⟩ := to_row L (by omega) hw2
      obtain ⟨K3, g3⟩ := j1
      obtain ⟨K4, g4⟩ := j2
      obtain ⟨K5, g5⟩ := eq_row (L.map toI) (by omega) (fun x hx => (hw x hx).2)
      refine ⟨K1 + K2 + K3 + K4 + K5, fun k hk => ?_⟩
      have e1 : laws_szReNodeS.f k L 1048576 = _ := g1 k (by omega)
      have e2 : laws_toReNodeS.f k L = _ := g2 k (by omega)
      have e3 : impl_ReText.f k (L.map toI) = _ := g3 k (by omega)
      have e4 : spec_ReText.f k (L.map toI) = _ := g4 k (by omega)
      have e5 : laws_eqReNodeS.f k (L.map toI) (L.map toI) = _ := g5 k (by omega)
      show laws_FnExactReText.f k L = _
      unfold laws_FnExactReText.f
      rw [e1, Option.bind_some, if_neg hb, e2, Option.bind_some, e4, Option.bind_some, Option.bind_some, e3, Option.bind_some, if_pos rfl, Option.bind_some, e5, Option.bind_some, if_pos (rfl : true = true)]
  exact key.rounds

end Go.Proofs.Ytmddcohelcciaaa.Pure
