/- FnExactUpper: every byte a letter of the lower case becomes one of the upper case, alike on both sides. -/
import Derived.Test.YtmddcohelcciaabPFnExactUpperx1
import Derived.Test.YtmddcohelcciaabXLem
import Derived.Test.YtmddcohelcciaabLFnExactUpperUpper
namespace Go.Proofs.Ytmddcohelcciaab.Pure
set_option linter.unusedVariables false
set_option linter.unusedSimpArgs false
open Go.RowKit Go.Proofs.Ytmddcohelcciaab.PFnExactUpper Go.Proofs.YtmddcohelcciaabW.PrintWords Go.Proofs.YtmddcohelcciaabW.PrintLast Go.Proofs.YtmddcohelcciaabW.PrintMore Go.Proofs.Ytmddcohelcciaab.XL

theorem FnExactUpper : laws_FnExactUpper.Pure := by
  intro s h
  have key : Ev (fun k => laws_FnExactUpper.f k s) true := by
    by_cases hb : (s.size : Int) > 1048576
    · refine ⟨0, fun k _ => ?_⟩
      show laws_FnExactUpper.f k s = _
      unfold laws_FnExactUpper.f
      rw [if_pos hb]
    · have hl := bytes_len s
      obtain ⟨v, e1, e2⟩ := same s.size 0 (bytesOf s) (by omega) (by omega)
      refine ev_use0 e1 e2 (fun k g1 g2 => ?_)
      show laws_FnExactUpper.f k s = _
      unfold laws_FnExactUpper.f spec_Upper.f impl_Upper.f
      rw [if_neg hb, if_pos (by omega), if_pos (by omega), Option.bind_some, show spec_Upper.l0 k (bytesOf s) 0 = some v from g1, Option.bind_some, show impl_Upper.l0 k (bytesOf s) ((bytesOf s).length : Int) 0 = some v from g2, Option.bind_some, if_pos rfl]
  exact key.rounds

end Go.Proofs.Ytmddcohelcciaab.Pure
