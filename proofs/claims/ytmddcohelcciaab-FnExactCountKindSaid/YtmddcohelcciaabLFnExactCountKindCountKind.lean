/- How many nodes are of a kind. -/
import Derived.Test.YtmddcohelcciaabPFnExactCountKindx
import Derived.Test.YtmddcohelcciaabLFnExactCountKindInts
import Derived.Test.YtmddcohelcciaabLFnExactCountKindStrs
import Derived.Test.YtmddcohelcciaabLFnExactCountKindEqRow
import Derived.Test.YtmddcohelcciaabLFnExactCountKindProgRow
import Derived.Test.YtmddcohelcciaabXLem
namespace Go.Proofs.Ytmddcohelcciaab.PFnExactCountKind
set_option linter.unusedVariables false
set_option linter.unusedSimpArgs false
open Go.RowKit Go.Proofs.YtmddcohelcciaabW.PrintWords Go.Proofs.YtmddcohelcciaabW.PrintLast Go.Proofs.YtmddcohelcciaabW.PrintMore Go.Proofs.Ytmddcohelcciaab.XL
theorem count_same (L : List S43) (T : List S51) (a : Int) (hL : L.length ≤ 1048576) : ∀ (d i m : Nat), i + d = L.length → m ≤ i → ∃ v, Ev (fun k => spec_CountKind.l0 k a (m : Int) (i : Int) L T) v ∧ Ev (fun k => impl_CountKind.l0 k a (m : Int) L (L.length : Int) (i : Int)) v := by
  intro d
  induction d with
  | zero =>
    intro i m h hm
    refine ⟨(m : Int), Ev.step (f := fun _ => some _) (fun k => ?_) (Ev.now _), Ev.step (f := fun _ => some _) (fun k => ?_) (Ev.now _)⟩
    · simp only [spec_CountKind.l0]
      rw [if_neg (by omega)]
    · simp only [impl_CountKind.l0]
      rw [if_neg (by omega)]
  | succ d ih =>
    intro i m h hm
    by_cases c : (rd_T43 L (i : Int)).f0 = a
    · obtain ⟨v, e1, e2⟩ := ih (i + 1) (m + 1) (by omega) (by omega)
      refine ⟨v, Ev.step (fun k => ?_) e1, Ev.step (fun k => ?_) e2⟩
      · simp only [spec_CountKind.l0]
        rw [if_pos (by omega), if_pos (by omega), if_pos c, wrap_nat1 i (by omega), wrap_nat1 m (by omega)]
      · simp only [impl_CountKind.l0]
        rw [if_pos (by omega), if_pos (by omega), if_pos (by omega), if_pos c, wrap_nat1 i (by omega), wrap_nat1 m (by omega)]
    · obtain ⟨v, e1, e2⟩ := ih (i + 1) m (by omega) (by omega)
      refine ⟨v, Ev.step (fun k => ?_) e1, Ev.step (fun k => ?_) e2⟩
      · simp only [spec_CountKind.l0]
        rw [if_pos (by omega), if_pos (by omega), if_neg c, wrap_nat1 i (by omega)]
      · simp only [impl_CountKind.l0]
        rw [if_pos (by omega), if_pos (by omega), if_pos (by omega), if_neg c, wrap_nat1 i (by omega)]
end Go.Proofs.Ytmddcohelcciaab.PFnExactCountKind
