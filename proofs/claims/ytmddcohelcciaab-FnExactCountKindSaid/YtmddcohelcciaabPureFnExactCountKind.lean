/- FnExactCountKind: the nodes of a kind are counted alike on both sides. -/
import Derived.Test.YtmddcohelcciaabPFnExactCountKindx5
import Derived.Test.YtmddcohelcciaabXLem
import Derived.Test.YtmddcohelcciaabLFnExactCountKindProgRow
import Derived.Test.YtmddcohelcciaabLFnExactCountKindCountKind
namespace Go.Proofs.Ytmddcohelcciaab.Pure
set_option linter.unusedVariables false
set_option linter.unusedSimpArgs false
open Go.RowKit Go.Proofs.Ytmddcohelcciaab.PFnExactCountKind Go.Proofs.YtmddcohelcciaabW.PrintWords Go.Proofs.YtmddcohelcciaabW.PrintLast Go.Proofs.YtmddcohelcciaabW.PrintMore Go.Proofs.Ytmddcohelcciaab.XL

theorem FnExactCountKind : laws_FnExactCountKind.Pure := by
  intro L T a h1 h2 h3 h4 _
  have hIn : InN L := ⟨h1, fun x hx => ⟨(h2 x hx).2.1, (h2 x hx).2.2.1, (h2 x hx).2.2.2.2.1⟩⟩
  have hIt : InT T := ⟨h3, fun x hx => ⟨(h4 x hx).2.1, (h4 x hx).2.2.1, (h4 x hx).2.2.2.1⟩⟩
  obtain ⟨r, e, hr, _⟩ := sz_prog L T hIn hIt 1048576 (by omega) (by omega)
  have key : Ev (fun k => laws_FnExactCountKind.f k L T a) true := by
    by_cases hb : r < 0
    · refine ev_use1 e (fun k g1 => ?_)
      unfold laws_FnExactCountKind.f
      rw [g1, Option.bind_some, if_pos hb]
    · obtain ⟨sL, sT⟩ := hr hb
      have hlen : (L.map toN).length ≤ 1048576 := by rw [List.length_map]; exact sL.1
      obtain ⟨v, j1, j2⟩ := count_same (L.map toN) (T.map toT) a hlen (L.map toN).length 0 0 (by omega) (by omega)
      obtain ⟨K1, g1⟩ := e
      obtain ⟨K2, g2⟩ := to_prog L T sL sT
      obtain ⟨K3, g3⟩ := j1
      obtain ⟨K4, g4⟩ := j2
      obtain ⟨K5, g5⟩ := eq_prog L T sL sT
      refine ⟨K1 + K2 + K3 + K4 + K5, fun k hk => ?_⟩
      have e1 : laws_szProg.f k L T 1048576 = _ := g1 k (by omega)
      have e2 : laws_toProg.f k L T = _ := g2 k (by omega)
      have e3 : spec_CountKind.f k (L.map toN) (T.map toT) a = _ := g3 k (by omega)
      have e4 : impl_CountKind.f k (L.map toN) (T.map toT) a = _ := g4 k (by omega)
      have e5 : laws_eqProg.f k (L.map toN) (T.map toT) (L.map toN) (T.map toT) = _ := g5 k (by omega)
      show laws_FnExactCountKind.f k L T a = _
      unfold laws_FnExactCountKind.f
      rw [e1, Option.bind_some, if_neg hb, e2, Option.bind_some, e3, Option.bind_some, Option.bind_some, e4, Option.bind_some, if_pos rfl, Option.bind_some, e5, Option.bind_some, if_pos (rfl : true = true)]
  exact key.rounds

end Go.Proofs.Ytmddcohelcciaab.Pure
