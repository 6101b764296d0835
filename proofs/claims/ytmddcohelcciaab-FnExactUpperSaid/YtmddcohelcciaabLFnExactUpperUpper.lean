/- Upper: a byte after the other. -/
import Derived.Test.YtmddcohelcciaabPFnExactUpperx
import Derived.Test.YtmddcohelcciaabXLem
namespace Go.Proofs.Ytmddcohelcciaab.PFnExactUpper
set_option linter.unusedVariables false
set_option linter.unusedSimpArgs false
open Go.RowKit Go.Proofs.YtmddcohelcciaabW.PrintWords Go.Proofs.YtmddcohelcciaabW.PrintLast Go.Proofs.YtmddcohelcciaabW.PrintMore Go.Proofs.Ytmddcohelcciaab.XL
theorem same : ∀ (d i : Nat) (M : List Int), i + d = M.length → M.length ≤ 1048576 → ∃ v, Ev (fun k => spec_Upper.l0 k M (i : Int)) v ∧ Ev (fun k => impl_Upper.l0 k M (M.length : Int) (i : Int)) v := by
  intro d
  induction d with
  | zero =>
    intro i M h hM
    refine ⟨strOfNums M, Ev.step (f := fun _ => some _) (fun k => ?_) (Ev.now _), Ev.step (f := fun _ => some _) (fun k => ?_) (Ev.now _)⟩
    · simp only [spec_Upper.l0]
      rw [if_neg (by omega)]
    · simp only [impl_Upper.l0]
      rw [if_neg (by omega)]
  | succ d ih =>
    intro i M h hM
    by_cases c1 : rd M (i : Int) ≥ 97
    · by_cases c2 : rd M (i : Int) ≤ 122
      · obtain ⟨v, e1, e2⟩ := ih (i + 1) (M.set i (rd M (i : Int) - 32)) (by rw [List.length_set]; omega) (by rw [List.length_set]; exact hM)
        refine ⟨v, Ev.step (fun k => ?_) e1, Ev.step (fun k => ?_) e2⟩
        · simp only [spec_Upper.l0]
          rw [if_pos (by omega), if_pos (by omega), if_pos c1, if_pos c2, wrap_nat1 i (by omega), show (rd M (i : Int) - 32) % 256 = rd M (i : Int) - 32 by omega, Int.toNat_natCast]
        · simp only [impl_Upper.l0]
          rw [if_pos (by omega), if_pos (by omega), if_pos (by omega), if_pos c1, if_pos c2, wrap_nat1 i (by omega), show ((rd M (i : Int) - 97) % 256 + 65) % 256 = rd M (i : Int) - 32 by omega, Int.toNat_natCast, List.length_set]
      · obtain ⟨v, e1, e2⟩ := ih (i + 1) M (by omega) hM
        refine ⟨v, Ev.step (fun k => ?_) e1, Ev.step (fun k => ?_) e2⟩
        · simp only [spec_Upper.l0]
          rw [if_pos (by omega), if_pos (by omega), if_pos c1, if_neg c2, wrap_nat1 i (by omega)]
        · simp only [impl_Upper.l0]
          rw [if_pos (by omega), if_pos (by omega), if_pos (by omega), if_pos c1, if_neg c2, wrap_nat1 i (by omega)]
    · obtain ⟨v, e1, e2⟩ := ih (i + 1) M (by omega) hM
      refine ⟨v, Ev.step (fun k => ?_) e1, Ev.step (fun k => ?_) e2⟩
      · simp only [spec_Upper.l0]
        rw [if_pos (by omega), if_pos (by omega), if_neg c1, wrap_nat1 i (by omega)]
      · simp only [impl_Upper.l0]
        rw [if_pos (by omega), if_pos (by omega), if_pos (by omega), if_neg c1, wrap_nat1 i (by omega)]
end Go.Proofs.Ytmddcohelcciaab.PFnExactUpper
