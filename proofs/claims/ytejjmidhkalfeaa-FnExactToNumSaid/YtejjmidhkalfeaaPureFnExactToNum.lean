/- For every cell (two int64 and a text), the program's ToNum and the reference's ToNum answer alike. No condition beyond the size that any text has. -/
import Derived.Test.YtejjmidhkalfeaaPFnExactToNumx5
import Derived.Test.YtejjmidhkalfeaaXLem
import Derived.Test.YtejjmidhkalfeaaLFnExactToNumReadDec
import Derived.Test.YtejjmidhkalfeaaLFnExactToNumLooksNum
import Derived.Test.YtejjmidhkalfeaaLFnExactToNumCell
namespace Go.Proofs.Ytejjmidhkalfeaa.Pure
set_option linter.unusedVariables false
set_option linter.unusedSimpArgs false
open Go.RowKit Go.Proofs.Ytejjmidhkalfeaa.PFnExactToNum Go.Proofs.YtejjmidhkalfeaaW.PrintWords Go.Proofs.YtejjmidhkalfeaaW.PrintLast Go.Proofs.YtejjmidhkalfeaaW.PrintMore Go.Proofs.Ytejjmidhkalfeaa.XL


def numV (t b : Int) (s : ByteArray) : Int := if cellOkV t b s = true then (if t = 2 then (readV s).1 else b) else 0
theorem spec_num (t b : Int) (s : ByteArray) (hs : s.size ≤ 140737488351232) : Ev (fun k => spec_ToNum.f k t b s) (numV t b s) := by
  refine ev_use0 (spec_cell t b s hs) (spec_read s hs) (fun k g1 g2 => ?_)
  unfold spec_ToNum.f numV
  rw [g1, g2, Option.bind_some]
  cases cellOkV t b s with
  | false => rfl
  | true =>
    rw [if_pos (rfl : true = true), if_pos (rfl : true = true)]
    by_cases h2 : t = 2
    · rw [if_pos h2, if_pos h2]; rfl
    · rw [if_neg h2, if_neg h2]
theorem impl_num (t b : Int) (s : ByteArray) (hs : s.size ≤ 140737488351232) : Ev (fun k => impl_ToNum.f k t b s) (numV t b s) := by
  refine ev_use0 (impl_cell t b s hs) (impl_read s hs) (fun k g1 g2 => ?_)
  unfold impl_ToNum.f impl_Cell_num.f numV
  rw [g1, g2, Option.bind_some]
  cases cellOkV t b s with
  | false => rfl
  | true =>
    rw [if_pos (rfl : true = true), if_pos (rfl : true = true)]
    by_cases h2 : t = 2
    · rw [if_pos h2, if_pos h2]; rfl
    · rw [if_neg h2, if_neg h2]; rfl

theorem FnExactToNum : laws_FnExactToNum.Pure := by
  intro t b s _ _ hm
  obtain ⟨r, e, hr⟩ := sz_small t b s 1048576 hm (by omega) (by omega)
  have key : Ev (fun k => laws_FnExactToNum.f k t b s) true := by
    by_cases hb : r < 0
    · exact Ev.congr (f := fun _ => some true) (fun k => by unfold laws_FnExactToNum.f; rw [e, Option.bind_some, if_pos hb]) (Ev.now _)
    · have hs2 : s.size ≤ 140737488351232 := by have := (hr hb).1; omega
      refine ev_use0 (spec_num t b s hs2) (impl_num t b s hs2) (fun k g1 g2 => ?_)
      unfold laws_FnExactToNum.f laws_toCell.f
      rw [e, Option.bind_some, if_neg hb]
      simp only [Option.bind_some]
      rw [g1, g2]
      simp
  exact key.rounds

end Go.Proofs.Ytejjmidhkalfeaa.Pure
