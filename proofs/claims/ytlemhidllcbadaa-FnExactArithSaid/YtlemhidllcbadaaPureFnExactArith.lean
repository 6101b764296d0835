/- For every kind and every two cells the program's Arith returns what the reference's Arith returns (where their texts have together at most 2^20 bytes; else the law returns true at once); no condition. -/
import Derived.Test.YtlemhidllcbadaaPFnExactArithx9
import Derived.Test.YtlemhidllcbadaaXLem
import Derived.Test.YtlemhidllcbadaaLFnExactArithReadDec
import Derived.Test.YtlemhidllcbadaaLFnExactArithLooksNum
import Derived.Test.YtlemhidllcbadaaLFnExactArithCell
import Derived.Test.YtlemhidllcbadaaLFnExactArithDecMul
import Derived.Test.YtlemhidllcbadaaLFnExactArithArith
namespace Go.Proofs.Ytlemhidllcbadaa.Pure
set_option linter.unusedVariables false
set_option linter.unusedSimpArgs false
open Go.RowKit Go.Proofs.Ytlemhidllcbadaa.PFnExactArith Go.Proofs.YtlemhidllcbadaaW.PrintWords Go.Proofs.YtlemhidllcbadaaW.PrintLast Go.Proofs.YtlemhidllcbadaaW.PrintMore Go.Proofs.Ytlemhidllcbadaa.XL

theorem FnExactArith : laws_FnExactArith.Pure := by
  intro d t1 b1 s1 t2 b2 s2 _ _ _ m1 _ _ m2
  obtain ⟨r, e, hr⟩ := sz_small t1 b1 s1 1048576 m1 (by omega) (by omega)
  have key : Ev (fun k => laws_FnExactArith.f k d t1 b1 s1 t2 b2 s2) true := by
    by_cases hb : r < 0
    · exact Ev.congr (f := fun _ => some true) (fun k => by unfold laws_FnExactArith.f; rw [e, Option.bind_some, if_pos hb]) (Ev.now _)
    · obtain ⟨hs1, hre, hr0⟩ := hr hb
      obtain ⟨q, e2, hq⟩ := sz_small t2 b2 s2 r m2 (by omega) hr0
      by_cases hb2 : q < 0
      · exact Ev.congr (f := fun _ => some true) (fun k => by unfold laws_FnExactArith.f; rw [e, Option.bind_some, if_neg hb, e2, Option.bind_some, if_pos hb2]) (Ev.now _)
      · have hs2 := (hq hb2).1
        obtain ⟨Ka, ga⟩ := spec_ar (d := d) (t1 := t1) (b1 := b1) (t2 := t2) (b2 := b2) (s1 := s1) (s2 := s2) (by omega) (by omega)
        obtain ⟨Kb, gb⟩ := impl_ar (d := d) (t1 := t1) (b1 := b1) (t2 := t2) (b2 := b2) (s1 := s1) (s2 := s2) (by omega) (by omega)
        refine ⟨Ka + Kb + 1, fun k hk => ?_⟩
        obtain ⟨k, rfl⟩ : ∃ m, k = m + 1 := ⟨k - 1, by omega⟩
        have g1 : spec_Arith.f (k + 1) d t1 b1 s1 t2 b2 s2 = _ := ga (k + 1) (by omega)
        have g2 : impl_Arith.f (k + 1) d t1 b1 s1 t2 b2 s2 = _ := gb (k + 1) (by omega)
        show laws_FnExactArith.f (k + 1) d t1 b1 s1 t2 b2 s2 = _
        unfold laws_FnExactArith.f laws_toCell.f laws_eqCell.f
        rw [e, Option.bind_some, if_neg hb, e2, Option.bind_some, if_neg hb2]
        simp only [Option.bind_some]
        rw [g1, Option.bind_some, g2, Option.bind_some, if_pos rfl, if_pos rfl, if_pos rfl, Option.bind_some, if_pos (rfl : true = true)]
        simp only [laws_FnExactArith.j0]
        rw [if_neg (by simp)]
  exact key.rounds

end Go.Proofs.Ytlemhidllcbadaa.Pure
