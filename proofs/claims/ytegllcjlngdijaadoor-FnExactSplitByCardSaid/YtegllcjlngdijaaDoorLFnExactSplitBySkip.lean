/- Whitespace: what is skipped. -/
import Derived.Test.YtegllcjlngdijaaDoorXBa
import Derived.Test.YtegllcjlngdijaaDoorPFnExactSplitByx
namespace Go.Proofs.YtegllcjlngdijaaDoor.PFnExactSplitBy
set_option linter.unusedVariables false
set_option linter.unusedSimpArgs false
open Go.RowKit Go.Proofs.YtegllcjlngdijaaDoorW.PrintWords Go.Proofs.YtegllcjlngdijaaDoorW.PrintLast Go.Proofs.YtegllcjlngdijaaDoorW.PrintMore Go.Proofs.YtegllcjlngdijaaDoor.XL

theorem white_spec (c : Int) : spec_l1white.f c = some (isS c) := by
  unfold spec_l1white.f isS
  by_cases h1 : c = 32
  · rw [if_pos h1, h1]; rfl
  · rw [if_neg h1]
    by_cases h2 : c = 9
    · rw [if_pos h2, h2]; rfl
    · rw [if_neg h2]
      rw [show (c == 32) = false by simpa using h1, show (c == 9) = false by simpa using h2]; rfl
theorem skip_spec {s : ByteArray} (hs : s.size ≤ 140737488351232) : ∀ (d i : Nat), i + d = s.size → Ev (fun k => spec_l1skip.f k s (i : Int)) ((i + scan isS s i : Nat) : Int) := by
  have loop : ∀ (d i : Nat), i + d = s.size → Ev (fun k => spec_l1skip.l0 k s (i : Int)) ((i + scan isS s i : Nat) : Int) := by
    intro d
    induction d with
    | zero =>
      intro i h
      refine Ev.step (f := fun _ => some _) (fun k => ?_) (Ev.now _)
      simp only [spec_l1skip.l0]
      rw [if_neg (by omega), scan_end isS s i (by omega)]
      rfl
    | succ d ih =>
      intro i h
      cases hp : isS (bt s (i : Int)) with
      | true =>
        rw [scan_yes (by omega) hp]
        have hih := ih (i + 1) (by omega)
        rw [show i + 1 + scan isS s (i + 1) = i + (scan isS s (i + 1) + 1) by omega] at hih
        refine Ev.step (fun k => ?_) hih
        simp only [spec_l1skip.l0]
        rw [if_pos (by omega), if_pos (by omega), white_spec, hp, Option.bind_some, if_pos (by trivial), wrap_nat1 i (by omega)]
      | false =>
        rw [scan_no hp]
        refine Ev.step (f := fun _ => some _) (fun k => ?_) (Ev.now _)
        simp only [spec_l1skip.l0]
        rw [if_pos (by omega), if_pos (by omega), white_spec, hp, Option.bind_some, if_neg (by simp)]
        rfl
  exact loop
end Go.Proofs.YtegllcjlngdijaaDoor.PFnExactSplitBy
