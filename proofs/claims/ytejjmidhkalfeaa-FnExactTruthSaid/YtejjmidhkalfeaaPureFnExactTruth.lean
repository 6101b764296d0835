/- For every cell (two int64 and a text), the program's Truth and the reference's Truth answer alike. No condition beyond the size that any text has. -/
import Derived.Test.YtejjmidhkalfeaaPFnExactTruthx5
import Derived.Test.YtejjmidhkalfeaaXLem
import Derived.Test.YtejjmidhkalfeaaLFnExactTruthReadDec
import Derived.Test.YtejjmidhkalfeaaLFnExactTruthLooksNum
import Derived.Test.YtejjmidhkalfeaaLFnExactTruthCell
namespace Go.Proofs.Ytejjmidhkalfeaa.Pure
set_option linter.unusedVariables false
set_option linter.unusedSimpArgs false
open Go.RowKit Go.Proofs.Ytejjmidhkalfeaa.PFnExactTruth Go.Proofs.YtejjmidhkalfeaaW.PrintWords Go.Proofs.YtejjmidhkalfeaaW.PrintLast Go.Proofs.YtejjmidhkalfeaaW.PrintMore Go.Proofs.Ytejjmidhkalfeaa.XL


def truthV (t b : Int) (s : ByteArray) : Bool := if cellOkV t b s = true then (if t = 2 then s.toList != ([] : List UInt8) else b != 0) else false
theorem spec_truth (t b : Int) (s : ByteArray) (hs : s.size ≤ 140737488351232) : Ev (fun k => spec_Truth.f k t b s) (truthV t b s) := by
  refine ev_use1 (spec_cell t b s hs) (fun k g1 => ?_)
  unfold spec_Truth.f truthV
  rw [g1, Option.bind_some]
  cases cellOkV t b s with
  | false => rfl
  | true =>
    rw [if_pos (rfl : true = true), if_pos (rfl : true = true)]
    by_cases h2 : t = 2
    · rw [if_pos h2, if_pos h2]
    · rw [if_neg h2, if_neg h2]
theorem impl_truth (t b : Int) (s : ByteArray) (hs : s.size ≤ 140737488351232) : Ev (fun k => impl_Truth.f k t b s) (truthV t b s) := by
  refine ev_use1 (impl_cell t b s hs) (fun k g1 => ?_)
  unfold impl_Truth.f impl_Cell_truth.f truthV
  rw [g1, Option.bind_some]
  cases cellOkV t b s with
  | false => rfl
  | true =>
    rw [if_pos (rfl : true = true), if_pos (rfl : true = true)]
    by_cases h2 : t = 2
    · rw [if_pos h2, if_pos h2]; rfl
    · rw [if_neg h2, if_neg h2]; rfl

theorem FnExactTruth : laws_FnExactTruth.Pure := by
  intro t b s _ _ hm
  obtain ⟨r, e, hr⟩ := sz_small t b s 1048576 hm (by omega) (by omega)
  have key : Ev (fun k => laws_FnExactTruth.f k t b s) true := by
    by_cases hb : r < 0
    · exact Ev.congr (f := fun _ => some true) (fun k => by unfold laws_FnExactTruth.f; rw [e, Option.bind_some, if_pos hb]) (Ev.now _)
    · have hs2 : s.size ≤ 140737488351232 := by have := (hr hb).1; omega
      refine ev_use0 (spec_truth t b s hs2) (impl_truth t b s hs2) (fun k g1 g2 => ?_)
      unfold laws_FnExactTruth.f laws_toCell.f
      rw [e, Option.bind_some, if_neg hb]
      simp only [Option.bind_some]
      rw [g1, g2]
      simp
  exact key.rounds

end Go.Proofs.Ytejjmidhkalfeaa.Pure
