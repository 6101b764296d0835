/- For every text s and all int64 from and n, the program's SubText and the reference's SubText answer alike. No condition beyond the size that any text has. -/
import Derived.Test.YtbaiaflphdkecabPFnExactSubTextx1
import Derived.Test.YtbaiaflphdkecabXLem
import Derived.Test.YtbaiaflphdkecabLFnExactSubTextSubText
namespace Go.Proofs.Ytbaiaflphdkecab.Pure
set_option linter.unusedVariables false
set_option linter.unusedSimpArgs false
open Go.RowKit Go.Proofs.Ytbaiaflphdkecab.PFnExactSubText Go.Proofs.YtbaiaflphdkecabW.PrintWords Go.Proofs.YtbaiaflphdkecabW.PrintLast Go.Proofs.YtbaiaflphdkecabW.PrintMore Go.Proofs.Ytbaiaflphdkecab.XL

theorem FnExactSubText : laws_FnExactSubText.Pure := by
  intro s a n hs ha hn
  have key : Ev (fun k => laws_FnExactSubText.f k s a n) true := by
    by_cases hb : (s.size : Int) > 1048576
    · exact Ev.congr (f := fun _ => some true) (fun k => by unfold laws_FnExactSubText.f; rw [if_pos hb]) (Ev.now _)
    · refine ev_use0 (spec_sub hs (wf_i64 ha) (wf_i64 hn)) (impl_sub hs (wf_i64 ha) (wf_i64 hn)) (fun k g1 g2 => ?_)
      unfold laws_FnExactSubText.f
      rw [if_neg hb, g1, Option.bind_some, g2, Option.bind_some]
      simp
  exact key.rounds

end Go.Proofs.Ytbaiaflphdkecab.Pure
