/- FnExactSameProg: two programs are compared alike on both sides. -/
import Derived.Test.YtmddcohelcciaabPFnExactSameProgx7
import Derived.Test.YtmddcohelcciaabXLem
import Derived.Test.YtmddcohelcciaabLFnExactSameProgProgRow
import Derived.Test.YtmddcohelcciaabLFnExactSameProgSameProg
namespace Go.Proofs.Ytmddcohelcciaab.Pure
set_option linter.unusedVariables false
set_option linter.unusedSimpArgs false
open Go.RowKit Go.Proofs.Ytmddcohelcciaab.PFnExactSameProg Go.Proofs.YtmddcohelcciaabW.PrintWords Go.Proofs.YtmddcohelcciaabW.PrintLast Go.Proofs.YtmddcohelcciaabW.PrintMore Go.Proofs.Ytmddcohelcciaab.XL

theorem FnExactSameProg : laws_FnExactSameProg.Pure := by
  intro L T M U h1 h2 h3 h4 h5 h6 h7 h8
  have hL : InN L := ⟨h1, fun x hx => ⟨(h2 x hx).2.1, (h2 x hx).2.2.1, (h2 x hx).2.2.2.2.1⟩⟩
  have hT : InT T := ⟨h3, fun x hx => ⟨(h4 x hx).2.1, (h4 x hx).2.2.1, (h4 x hx).2.2.2.1⟩⟩
  have hM : InN M := ⟨h5, fun x hx => ⟨(h6 x hx).2.1, (h6 x hx).2.2.1, (h6 x hx).2.2.2.2.1⟩⟩
  have hU : InT U := ⟨h7, fun x hx => ⟨(h8 x hx).2.1, (h8 x hx).2.2.1, (h8 x hx).2.2.2.1⟩⟩
  obtain ⟨r, e, hr, hr2⟩ := sz_prog L T hL hT 1048576 (by omega) (by omega)
  have key : Ev (fun k => laws_FnExactSameProg.f k L T M U) true := by
    by_cases hb : r < 0
    · refine ev_use1 e (fun k g1 => ?_)
      unfold laws_FnExactSameProg.f
      rw [g1, Option.bind_some, if_pos hb]
    · obtain ⟨s, f, hs, _⟩ := sz_prog M U hM hU r (by omega) hr2
      by_cases hb2 : s < 0
      · refine ev_use0 e f (fun k g1 g2 => ?_)
        unfold laws_FnExactSameProg.f
        rw [g1, Option.bind_some, if_neg hb, g2, Option.bind_some, if_pos hb2]
      · obtain ⟨sL, sT⟩ := hr hb
        obtain ⟨sM, sU⟩ := hs hb2
        obtain ⟨v, j1, j2⟩ := prog_same (L.map toN) (M.map toN) (T.map toT) (U.map toT) (by rw [List.length_map]; exact sL.1)
          (fun x hx => by obtain ⟨y, hy, rfl⟩ := List.mem_map.1 hx; exact (sL.2 y hy).2.2) (by rw [List.length_map]; exact sT.1)
          (fun x hx => by obtain ⟨y, hy, rfl⟩ := List.mem_map.1 hx; exact (sT.2 y hy).2.1)
        obtain ⟨K1, g1⟩ := e
        obtain ⟨K2, g2⟩ := f
        obtain ⟨K3, g3⟩ := to_prog L T sL sT
        obtain ⟨K4, g4⟩ := to_prog M U sM sU
        obtain ⟨K5, g5⟩ := j1
        obtain ⟨K6, g6⟩ := j2
        obtain ⟨K7, g7⟩ := eq_prog L T sL sT
        obtain ⟨K8, g8⟩ := eq_prog M U sM sU
        refine ⟨K1 + K2 + K3 + K4 + K5 + K6 + K7 + K8, fun k hk => ?_⟩
        have e1 : laws_szProg.f k L T 1048576 = _ := g1 k (by omega)
        have e2 : laws_szProg.f k M U r = _ := g2 k (by omega)
        have e3 : laws_toProg.f k L T = _ := g3 k (by omega)
        have e4 : laws_toProg.f k M U = _ := g4 k (by omega)
        have e5 : spec_SameProg.f k (L.map toN) (T.map toT) (M.map toN) (U.map toT) = _ := g5 k (by omega)
        have e6 : impl_SameProg.f k (L.map toN) (T.map toT) (M.map toN) (U.map toT) = _ := g6 k (by omega)
        have e7 : laws_eqProg.f k (L.map toN) (T.map toT) (L.map toN) (T.map toT) = _ := g7 k (by omega)
        have e8 : laws_eqProg.f k (M.map toN) (U.map toT) (M.map toN) (U.map toT) = _ := g8 k (by omega)
        show laws_FnExactSameProg.f k L T M U = _
        unfold laws_FnExactSameProg.f
        simp only [e1, e2, e3, e4, e5, e6, e7, e8, Option.bind_some, if_neg hb, if_neg hb2, bne_self_eq_false, Bool.false_eq_true, if_false, if_true]
  exact key.rounds

end Go.Proofs.Ytmddcohelcciaab.Pure
