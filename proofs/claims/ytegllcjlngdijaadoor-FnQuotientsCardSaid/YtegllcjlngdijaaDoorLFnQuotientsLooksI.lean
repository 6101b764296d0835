/- LooksNum: the program's and the reference's answer alike. -/
import Derived.Test.YtegllcjlngdijaaDoorXLem
import Derived.Test.YtegllcjlngdijaaDoorPFnQuotientsx
import Derived.Test.YtegllcjlngdijaaDoorLFnQuotientsReadI
namespace Go.Proofs.YtegllcjlngdijaaDoor.PFnQuotients
set_option linter.unusedVariables false
set_option linter.unusedSimpArgs false
open Go.RowKit Go.Proofs.YtegllcjlngdijaaDoorW.PrintWords Go.Proofs.YtegllcjlngdijaaDoorW.PrintLast Go.Proofs.YtegllcjlngdijaaDoorW.PrintMore Go.Proofs.YtegllcjlngdijaaDoor.XL

/-- A number, and nothing behind it but whitespace. -/
def looks (s : ByteArray) : Bool := decide (0 < (readV s).2) && decide ((readV s).2.toNat + scan isS s (readV s).2.toNat = s.size)

theorem impl_looks (s : ByteArray) (hs : s.size ≤ 140737488351232) : Ev (fun k => impl_LooksNum.f k s) (looks s) := by
  have hb := (read_bounds s).2.2
  obtain ⟨m, hm⟩ := Int.eq_ofNat_of_zero_le hb.1
  have h1 := impl_read s hs
  have hm2 : m ≤ s.size := by omega
  have h2 := runS hs m hm2
  unfold looks
  rw [hm]
  by_cases hp : 0 < m
  · refine ev_use0 h1 h2 (fun k g1 g2 => ?_)
    have g2' : impl_run_isSpace.f k s (m : Int) = some ((scan isS s m : Nat) : Int) := g2
    unfold impl_LooksNum.f
    rw [g1, Option.bind_some, hm, if_pos (by show (m : Int) > 0; omega)]
    show (impl_run_isSpace.f k s (m : Int)).bind (fun t => some (t == wrap64 ((s.size : Int) - (m : Int)))) = _
    rw [g2', Option.bind_some, wrap_id (by omega) (by omega)]
    simp only [Int.toNat_natCast]
    rw [show (((scan isS s m : Nat) : Int) == (s.size : Int) - (m : Int)) = decide (m + scan isS s m = s.size) by rw [Bool.eq_iff_iff, beq_iff_eq, decide_eq_true_iff]; omega]
    simp [hp]
  · refine ev_use1 h1 (fun k g1 => ?_)
    unfold impl_LooksNum.f
    rw [g1, Option.bind_some, hm, if_neg (by show ¬ (m : Int) > 0; omega)]
    simp [show m = 0 by omega]
end Go.Proofs.YtegllcjlngdijaaDoor.PFnQuotients
