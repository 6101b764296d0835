/- FnExactLex: a text is cut into the same tokens on both sides. -/
import Derived.Test.YtmddcohelcciaacDoorPFnExactLexx16
import Derived.Test.YtmddcohelcciaacDoorXLem
import Derived.Test.YtmddcohelcciaacDoorLFnExactLexLexMain
import Derived.Test.YtmddcohelcciaacDoorLFnExactLexLexMarks
namespace Go.Proofs.YtmddcohelcciaacDoor.Pure
set_option linter.unusedVariables false
set_option linter.unusedSimpArgs false
open Go.RowKit Go.Proofs.YtmddcohelcciaacDoor.PFnExactLex Go.Proofs.YtmddcohelcciaacDoorW.PrintWords Go.Proofs.YtmddcohelcciaacDoorW.PrintLast Go.Proofs.YtmddcohelcciaacDoorW.PrintMore Go.Proofs.YtmddcohelcciaacDoor.XL

theorem FnExactLex : laws_FnExactLex.Pure := by
  intro s hs
  have key : Ev (fun k => laws_FnExactLex.f k s) true := by
    by_cases hb : (s.size : Int) > 1048576
    · refine ⟨0, fun k _ => ?_⟩
      show laws_FnExactLex.f k s = _
      unfold laws_FnExactLex.f
      rw [if_pos hb]
    · obtain ⟨L, r, e1, e2, e3⟩ := lex_same s
      obtain ⟨L', m, m0, m1, m2⟩ := marks_ok L (by omega)
      have q := eq_toks L (by omega)
      have last : Ev (fun k => laws_FnExactLex.j1 k L' m false) true := by
        refine ev_use m2 (Ev.now ()) (fun k g _ => ?_)
        simp only [laws_FnExactLex.j1]
        rw [if_neg (by simp), g, Option.bind_some, if_neg (by omega), if_pos rfl]
      have all : Ev (fun k => some (impl_Lex.f k s, laws_eqTokS.f k L L, laws_markTokS.f k L 1, laws_heldTokS.f k L' 1)) (some (L, r), some true, some (m, L'), some m) := by
        refine ev_use0 (ev_use0 e1 q (F := fun k => some (impl_Lex.f k s, laws_eqTokS.f k L L)) (r := (some (L, r), some true)) (fun k g1 g2 => by rw [g1, g2])) (ev_use0 m1 m2 (F := fun k => some (laws_markTokS.f k L 1, laws_heldTokS.f k L' 1)) (r := (some (m, L'), some m)) (fun k g1 g2 => by rw [g1, g2])) (fun k g1 g2 => ?_)
        simp only [Option.some.injEq, Prod.mk.injEq] at g1 g2
        rw [g1.1, g1.2, g2.1, g2.2]
      have mid : Ev (fun k => laws_FnExactLex.j0 k s L r L false) true := by
        refine ev_use all last (fun k g1 g2 => ?_)
        simp only [Option.some.injEq, Prod.mk.injEq] at g1
        simp only [laws_FnExactLex.j0]
        rw [if_neg (by simp), g1.2.2.1, Option.bind_some, g1.2.2.2, Option.bind_some, if_neg (by omega), if_pos rfl, g1.1, Option.bind_some, g1.2.1, Option.bind_some, if_pos (rfl : true = true), show (r != r) = false by simp]
        exact g2
      obtain ⟨K1, g1⟩ := e1
      obtain ⟨K2, g2⟩ := e2
      obtain ⟨K3, g3⟩ := q
      obtain ⟨K4, g4⟩ := mid
      refine ⟨K1 + K2 + K3 + K4, fun k hk => ?_⟩
      have f1 : impl_Lex.f k s = _ := g1 k (by omega)
      have f2 : spec_Lex.f k s = _ := g2 k (by omega)
      have f3 : laws_eqTokS.f k L L = _ := g3 k (by omega)
      have f4 : laws_FnExactLex.j0 k s L r L false = _ := g4 k (by omega)
      show laws_FnExactLex.f k s = _
      unfold laws_FnExactLex.f
      rw [if_neg hb, f2, Option.bind_some, f1, Option.bind_some, f3, Option.bind_some, if_pos (rfl : true = true), show (r != r) = false by simp]
      exact f4
  exact key.rounds

end Go.Proofs.YtmddcohelcciaacDoor.Pure
