/- NameOk: the program's and the reference's answer alike. -/
import Derived.Test.YtabbpbilkojkhaaXLem
import Derived.Test.YtabbpbilkojkhaaPFnExactNameOkx
import Derived.Test.YtabbpbilkojkhaaLFnExactNameOkIsWord
namespace Go.Proofs.Ytabbpbilkojkhaa.PFnExactNameOk
set_option linter.unusedVariables false
set_option linter.unusedSimpArgs false
open Go.RowKit Go.Proofs.YtabbpbilkojkhaaW.PrintWords Go.Proofs.YtabbpbilkojkhaaW.PrintLast Go.Proofs.YtabbpbilkojkhaaW.PrintMore Go.Proofs.Ytabbpbilkojkhaa.XL

def isL (c : Int) : Bool := (impl_isLetter.f c).getD false
def isN (c : Int) : Bool := isL c || isD c
theorem impl_isLetter_eq (c : Int) : impl_isLetter.f c = some (isL c) := by
  have : ∃ b, impl_isLetter.f c = some b := by
    unfold impl_isLetter.f
    repeat' split
    all_goals exact ⟨_, rfl⟩
  obtain ⟨b, hb⟩ := this
  simp [isL, hb]
theorem spec_l3letter_eq (c : Int) : spec_l3letter.f c = some (isL c) := impl_isLetter_eq c
theorem nm_isDigit_eq (c : Int) : impl_isDigit.f c = some (isD c) := by
  unfold impl_isDigit.f isD
  by_cases h : c ≥ 48
  · rw [if_pos h]; simp [show 48 ≤ c from h]
  · rw [if_neg h]; simp [show ¬ 48 ≤ c from h]
theorem impl_isNamed_eq (c : Int) : impl_isNamed.f c = some (isN c) := by
  unfold impl_isNamed.f isN
  rw [impl_isLetter_eq, nm_isDigit_eq]
  cases isL c <;> simp
theorem spec_l3inner_eq (c : Int) : spec_l3inner.f c = some (isN c) := impl_isNamed_eq c

section
variable {s : ByteArray} (hs : s.size ≤ 140737488351232)
include hs
theorem runN_ev : ∀ (d i c : Nat), i + c + d = s.size → Ev (fun k => impl_run_isNamed.l0 k s (i : Int) (c : Int)) ((c + scan isN s (i + c) : Nat) : Int) := by
  intro d
  induction d with
  | zero =>
    intro i c h
    rw [scan_end isN s (i + c) (by omega)]
    refine Ev.step (f := fun _ => some ((c + 0 : Nat) : Int)) (fun k => ?_) (Ev.now _)
    simp only [impl_run_isNamed.l0]
    rw [wrap_id (by omega) (by omega), if_neg (by omega)]
    simp
  | succ d ih =>
    intro i c h
    have e : ((i : Int) + (c : Int)) = ((i + c : Nat) : Int) := by omega
    cases hp : isN (bt s ((i + c : Nat) : Int)) with
    | true =>
      rw [scan_yes (by omega) hp]
      refine Ev.step (f := fun k => impl_run_isNamed.l0 k s (i : Int) ((c + 1 : Nat) : Int)) (fun k => ?_) ?_
      · simp only [impl_run_isNamed.l0]
        rw [wrap_id (n := (i : Int) + (c : Int)) (by omega) (by omega), e, if_pos (by omega), if_pos (by omega), impl_isNamed_eq, hp]
        simp only [Option.bind_some, if_true]
        rw [wrap_id (by omega) (by omega)]
        rfl
      · have := ih i (c + 1) (by omega)
        rw [show c + 1 + scan isN s (i + (c + 1)) = c + (scan isN s (i + c + 1) + 1) by rw [Nat.add_assoc i c 1]; omega] at this
        exact this
    | false =>
      rw [scan_no hp]
      refine Ev.step (f := fun _ => some ((c + 0 : Nat) : Int)) (fun k => ?_) (Ev.now _)
      simp only [impl_run_isNamed.l0]
      rw [wrap_id (n := (i : Int) + (c : Int)) (by omega) (by omega), e, if_pos (by omega), if_pos (by omega), impl_isNamed_eq, hp]
      simp
theorem runN (i : Nat) (hi : i ≤ s.size) : Ev (fun k => impl_run_isNamed.f k s (i : Int)) ((scan isN s i : Nat) : Int) := by
  have := runN_ev hs (s.size - i) i 0 (by omega)
  rw [Nat.zero_add, Nat.add_zero] at this
  exact this

theorem specN_ev : ∀ (d i : Nat), i + d = s.size → Ev (fun k => spec_NameOk.l0 k s (i : Int)) (decide (i + scan isN s i = s.size)) := by
  intro d
  induction d with
  | zero =>
    intro i h
    rw [scan_end isN s i (by omega)]
    refine Ev.step (f := fun _ => some (decide (i + 0 = s.size))) (fun k => ?_) (Ev.now _)
    simp only [spec_NameOk.l0]
    rw [if_neg (by omega)]
    simp [h]
  | succ d ih =>
    intro i h
    cases hp : isN (bt s i) with
    | true =>
      rw [scan_yes (by omega) hp]
      refine Ev.step (f := fun k => spec_NameOk.l0 k s ((i + 1 : Nat) : Int)) (fun k => ?_) ?_
      · simp only [spec_NameOk.l0]
        rw [if_pos (by omega), if_pos (by omega), spec_l3inner_eq, hp]
        simp only [Option.bind_some, if_true]
        rw [wrap_id (by omega) (by omega)]
        rfl
      · have := ih (i + 1) (by omega)
        rw [show i + 1 + scan isN s (i + 1) = i + (scan isN s (i + 1) + 1) by omega] at this
        exact this
    | false =>
      rw [scan_no hp]
      refine Ev.step (f := fun _ => some (decide (i + 0 = s.size))) (fun k => ?_) (Ev.now _)
      simp only [spec_NameOk.l0]
      rw [if_pos (by omega), if_pos (by omega), spec_l3inner_eq, hp]
      have : ¬ i = s.size := by omega
      simp [this]

theorem nameOk_same : ∃ b, Ev (fun k => spec_NameOk.f k s) b ∧ Ev (fun k => impl_NameOk.f k s) b := by
  have no : Ev (fun k => spec_NameOk.j0 k s true) false := by
    refine Ev.step (f := fun _ => some false) (fun k => ?_) (Ev.now _)
    simp only [spec_NameOk.j0]
    rw [if_pos (by trivial)]
  by_cases h1 : (s.size : Int) < 1
  · refine ⟨false, Ev.congr (fun k => ?_) no, Ev.congr (f := fun _ => some false) (fun k => ?_) (Ev.now _)⟩
    · unfold spec_NameOk.f; rw [if_pos h1]
    · unfold impl_NameOk.f impl_between.f; rw [if_neg (by omega)]; rfl
  · by_cases h2 : (s.size : Int) > 40
    · refine ⟨false, Ev.congr (fun k => ?_) no, Ev.congr (f := fun _ => some false) (fun k => ?_) (Ev.now _)⟩
      · unfold spec_NameOk.f; rw [if_neg h1, if_pos h2]
      · unfold impl_NameOk.f impl_between.f; rw [if_pos (by omega), decide_eq_false (by omega)]; rfl
    · have hb : impl_between.f (s.size : Int) 1 40 = some true := by unfold impl_between.f; rw [if_pos (by omega), decide_eq_true (by omega)]
      cases hL : isL (bt s 0) with
      | false =>
        refine ⟨false, Ev.congr (fun k => ?_) no, Ev.congr (f := fun _ => some false) (fun k => ?_) (Ev.now _)⟩
        · unfold spec_NameOk.f; rw [if_neg h1, if_neg h2, if_pos (by omega), spec_l3letter_eq, hL]; rfl
        · unfold impl_NameOk.f; rw [hb, Option.bind_some, if_pos (by trivial), if_pos (by omega), impl_isLetter_eq, hL]; rfl
      | true =>
        obtain ⟨b, w1, w2⟩ := isWord_same s
        have r1 := runN hs 0 (by omega)
        have r2 := specN_ev hs s.size 0 (by omega)
        rw [Nat.zero_add] at r2
        refine ⟨decide (scan isN s 0 = s.size) && !b, ?_, ?_⟩
        · have key : Ev (fun k => spec_NameOk.j0 k s b) (decide (scan isN s 0 = s.size) && !b) := by
            cases b with
            | true =>
              rw [show (decide (scan isN s 0 = s.size) && !true) = false by simp]
              exact no
            | false =>
              rw [show (decide (scan isN s 0 = s.size) && !false) = decide (scan isN s 0 = s.size) by simp]
              refine Ev.step (fun k => ?_) r2
              simp only [spec_NameOk.j0]
              rw [if_neg (by simp)]
              rfl
          refine ev_use0 w1 key (fun k g1 g2 => ?_)
          unfold spec_NameOk.f
          rw [if_neg h1, if_neg h2, if_pos (by omega), spec_l3letter_eq, hL, Option.bind_some, if_pos (by trivial), g1]
          exact g2
        · refine ev_use0 w2 r1 (fun k g1 g2 => ?_)
          have g2' : impl_run_isNamed.f k s 0 = some ((scan isN s 0 : Nat) : Int) := g2
          unfold impl_NameOk.f
          rw [hb, Option.bind_some, if_pos (by trivial), if_pos (by omega), impl_isLetter_eq, hL, Option.bind_some, if_pos (by trivial), g2', Option.bind_some]
          by_cases e : scan isN s 0 = s.size
          · rw [if_pos (by omega), g1]
            simp [e]
          · rw [if_neg (by omega)]
            simp [e]
end
end Go.Proofs.Ytabbpbilkojkhaa.PFnExactNameOk
