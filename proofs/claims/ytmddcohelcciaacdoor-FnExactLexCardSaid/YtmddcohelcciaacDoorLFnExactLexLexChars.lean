/- Lex: kinds of bytes; runs of them; the rest of a text. -/
import Derived.Test.YtmddcohelcciaacDoorPFnExactLexx
import Derived.Test.YtmddcohelcciaacDoorLFnExactLexReadDec
import Derived.Test.YtmddcohelcciaacDoorXLem
namespace Go.Proofs.YtmddcohelcciaacDoor.PFnExactLex
set_option linter.unusedVariables false
set_option linter.unusedSimpArgs false
open Go.RowKit Go.Proofs.YtmddcohelcciaacDoorW.PrintWords Go.Proofs.YtmddcohelcciaacDoorW.PrintLast Go.Proofs.YtmddcohelcciaacDoorW.PrintMore Go.Proofs.YtmddcohelcciaacDoor.XL
def isL (c : Int) : Bool := (impl_isLetter.f c).getD false
def isN (c : Int) : Bool := isL c || isD c
def isB (c : Int) : Bool := c != 10
theorem impl_isLetter_eq (c : Int) : impl_isLetter.f c = some (isL c) := by
  have : ∃ b, impl_isLetter.f c = some b := by
    unfold impl_isLetter.f
    repeat' split
    all_goals exact ⟨_, rfl⟩
  obtain ⟨b, hb⟩ := this
  simp [isL, hb]
theorem spec_l3letter_eq (c : Int) : spec_l3letter.f c = some (isL c) := impl_isLetter_eq c
theorem impl_isNamed_eq (c : Int) : impl_isNamed.f c = some (isN c) := by
  unfold impl_isNamed.f isN
  rw [impl_isLetter_eq, impl_isDigit_eq]
  cases isL c <;> simp
theorem spec_l3inner_eq (c : Int) : spec_l3inner.f c = some (isN c) := impl_isNamed_eq c
theorem isL_not (c : Int) (h : isL c = true) : c ≠ 34 ∧ c ≠ 47 ∧ isD c = false := by
  refine ⟨?_, ?_, ?_⟩
  · rintro rfl
    exact absurd h (by decide)
  · rintro rfl
    exact absurd h (by decide)
  · cases hd : isD c with
    | false => rfl
    | true =>
      exfalso
      unfold isD at hd
      simp only [Bool.and_eq_true, decide_eq_true_eq] at hd
      unfold isL impl_isLetter.f at h
      rw [if_neg (by omega), if_neg (by omega)] at h
      simp at h
      omega
section
variable {s : ByteArray} (hs : s.size ≤ 4000)
include hs
theorem runN_ev : ∀ (d i c : Nat), i + c + d = s.size → Ev (fun k => impl_run_isNamed.l0 k s (i : Int) (c : Int)) ((c + scan isN s (i + c) : Nat) : Int) := by
  intro d
  induction d with
  | zero =>
    intro i c h
    rw [scan_end isN s (i + c) (by omega)]
    refine Ev.step (f := fun _ => some ((c + 0 : Nat) : Int)) (fun k => ?_) (Ev.now _)
    simp only [impl_run_isNamed.l0]
    rw [wrap_nat i c (by omega), if_neg (by omega)]
    rfl
  | succ d ih =>
    intro i c h
    cases hp : isN (bt s ((i + c : Nat) : Int)) with
    | true =>
      have e : c + scan isN s (i + c) = c + 1 + scan isN s (i + (c + 1)) := by
        rw [scan_yes (by omega) hp, show i + (c + 1) = i + c + 1 by omega]
        omega
      rw [e]
      refine Ev.step (fun k => ?_) (ih i (c + 1) (by omega))
      simp only [impl_run_isNamed.l0]
      rw [wrap_nat i c (by omega), if_pos (by omega), if_pos (by omega), impl_isNamed_eq, hp, Option.bind_some, if_pos (rfl : true = true), wrap_nat1 c (by omega)]
    | false =>
      rw [scan_no hp]
      refine Ev.step (f := fun _ => some ((c + 0 : Nat) : Int)) (fun k => ?_) (Ev.now _)
      simp only [impl_run_isNamed.l0]
      rw [wrap_nat i c (by omega), if_pos (by omega), if_pos (by omega), impl_isNamed_eq, hp, Option.bind_some, if_neg (by simp)]
      rfl
theorem runB_ev : ∀ (d i c : Nat), i + c + d = s.size → Ev (fun k => impl_run_Lex_1.l0 k s (i : Int) (c : Int)) ((c + scan isB s (i + c) : Nat) : Int) := by
  intro d
  induction d with
  | zero =>
    intro i c h
    rw [scan_end isB s (i + c) (by omega)]
    refine Ev.step (f := fun _ => some ((c + 0 : Nat) : Int)) (fun k => ?_) (Ev.now _)
    simp only [impl_run_Lex_1.l0]
    rw [wrap_nat i c (by omega), if_neg (by omega)]
    rfl
  | succ d ih =>
    intro i c h
    cases hp : isB (bt s ((i + c : Nat) : Int)) with
    | true =>
      have e : c + scan isB s (i + c) = c + 1 + scan isB s (i + (c + 1)) := by
        rw [scan_yes (by omega) hp, show i + (c + 1) = i + c + 1 by omega]
        omega
      rw [e]
      refine Ev.step (fun k => ?_) (ih i (c + 1) (by omega))
      simp only [impl_run_Lex_1.l0]
      unfold impl_Lex_1.f
      unfold isB at hp
      rw [wrap_nat i c (by omega), if_pos (by omega), if_pos (by omega), hp, Option.bind_some, if_pos (rfl : true = true), wrap_nat1 c (by omega)]
    | false =>
      rw [scan_no hp]
      refine Ev.step (f := fun _ => some ((c + 0 : Nat) : Int)) (fun k => ?_) (Ev.now _)
      simp only [impl_run_Lex_1.l0]
      unfold impl_Lex_1.f
      unfold isB at hp
      rw [wrap_nat i c (by omega), if_pos (by omega), if_pos (by omega), hp, Option.bind_some, if_neg (by simp)]
      rfl
/-- Over blanks and remarks: where both sides go on. -/
theorem blank_same : ∀ (d i : Nat), i + d = s.size → ∃ j, i ≤ j ∧ j ≤ s.size ∧ (j < s.size → isS (bt s (j : Int)) = false ∧ bt s (j : Int) ≠ 35) ∧ Ev (fun k => spec_l3blank.l0 k s (i : Int)) (j : Int) ∧
    ∀ (out : List S30) (a : Int) (b : ByteArray) (c e : Int) (v : List S30 × Int), Ev (fun k => impl_Lex.l0 k s out (j : Int) a b c e) v → Ev (fun k => impl_Lex.l0 k s out (i : Int) a b c e) v := by
  intro d
  induction d using Nat.strongRecOn with
  | _ d ih =>
    intro i h
    by_cases hi : i < s.size
    · by_cases hc : bt s (i : Int) = 35
      · have hb : isB (bt s (i : Int)) = true := by rw [hc]; rfl
        have hy := scan_yes hi hb
        have hle := scan_le' isB s i (by omega)
        obtain ⟨j, h1, h2, h3, h4, h5⟩ := ih (d - scan isB s i) (by omega) (i + scan isB s i) (by omega)
        have l1 : ∀ (d i : Nat), i + d = s.size → Ev (fun k => spec_l3blank.l0 k s ((i + scan isB s i : Nat) : Int)) (j : Int) → Ev (fun k => spec_l3blank.l1 k s (i : Int)) (j : Int) := by
          intro d
          induction d with
          | zero =>
            intro i h e
            rw [scan_end isB s i (by omega)] at e
            refine Ev.step (fun k => ?_) e
            simp only [spec_l3blank.l1]
            rw [if_neg (by omega)]
            rfl
          | succ d ihd =>
            intro i h e
            cases hp : isB (bt s (i : Int)) with
            | true =>
              rw [scan_yes (by omega) hp, show i + (scan isB s (i + 1) + 1) = i + 1 + scan isB s (i + 1) by omega] at e
              refine Ev.step (fun k => ?_) (ihd (i + 1) (by omega) e)
              simp only [spec_l3blank.l1]
              rw [if_pos (by omega), if_pos (by omega), if_neg (by unfold isB at hp; simpa using hp), wrap_nat1 i (by omega)]
            | false =>
              rw [scan_no hp] at e
              refine Ev.step (fun k => ?_) e
              simp only [spec_l3blank.l1]
              rw [if_pos (by omega), if_pos (by omega), if_pos (by unfold isB at hp; simpa using hp)]
              rfl
        refine ⟨j, by omega, h2, h3, Ev.step (fun k => ?_) (l1 d i h h4), fun out a b c e v ev => ?_⟩
        · simp only [spec_l3blank.l0]
          rw [if_pos (by omega), if_pos (by omega), if_pos hc]
        · have hrun := runB_ev hs (s.size - i) i 0 (by omega)
          rw [Nat.add_zero, Nat.zero_add] at hrun
          refine ev_use hrun (h5 out a b c e v ev) (fun k g1 g2 => ?_)
          simp only [impl_Lex.l0]
          rw [if_pos (by omega), if_pos (by omega), impl_isSpace_eq, hc, Option.bind_some, if_neg (by decide), if_pos rfl]
          unfold impl_run_Lex_1.f
          rw [show impl_run_Lex_1.l0 k s (i : Int) 0 = some ((scan isB s i : Nat) : Int) from g1, Option.bind_some, wrap_nat i _ (by omega)]
          exact g2
      · cases hw : isS (bt s (i : Int)) with
        | true =>
          obtain ⟨j, h1, h2, h3, h4, h5⟩ := ih (d - 1) (by omega) (i + 1) (by omega)
          refine ⟨j, by omega, h2, h3, Ev.step (fun k => ?_) h4, fun out a b c e v ev => Ev.step (fun k => ?_) (h5 out a b c e v ev)⟩
          · simp only [spec_l3blank.l0]
            rw [if_pos (by omega), if_pos (by omega), if_neg hc, spec_l1white_eq, hw, Option.bind_some, if_pos (rfl : true = true), wrap_nat1 i (by omega)]
          · simp only [impl_Lex.l0]
            rw [if_pos (by omega), if_pos (by omega), impl_isSpace_eq, hw, Option.bind_some, if_pos (rfl : true = true), wrap_nat1 i (by omega)]
        | false =>
          refine ⟨i, Nat.le_refl _, by omega, fun _ => ⟨hw, hc⟩, Ev.step (f := fun _ => some _) (fun k => ?_) (Ev.now _), fun out a b c e v ev => ev⟩
          simp only [spec_l3blank.l0]
          rw [if_pos (by omega), if_pos (by omega), if_neg hc, spec_l1white_eq, hw, Option.bind_some, if_neg (by simp)]
    · refine ⟨i, Nat.le_refl _, by omega, fun z => absurd z hi, Ev.step (f := fun _ => some _) (fun k => ?_) (Ev.now _), fun out a b c e v ev => ev⟩
      simp only [spec_l3blank.l0]
      rw [if_neg (by omega)]
end
/-- The rest of a text, from place a on. -/
def rest (s : ByteArray) (a : Nat) : ByteArray := s.extract a s.size
theorem rest_size (s : ByteArray) (a : Nat) : (rest s a).size = s.size - a := by
  unfold rest
  rw [size_extract, Nat.min_self]
theorem rest_bt (s : ByteArray) (a j : Nat) (h : a + j < s.size) : bt (rest s a) (j : Int) = bt s ((a + j : Nat) : Int) := by
  unfold rest
  rw [bt_extract s a s.size j (by omega) (by omega), Int.natCast_add]
theorem rest_scan (p : Int → Bool) (s : ByteArray) (a : Nat) : ∀ (d j : Nat), a + j + d = s.size → scan p (rest s a) j = scan p s (a + j) := by
  intro d
  induction d with
  | zero =>
    intro j h
    rw [scan_end p s (a + j) (by omega), scan_end p (rest s a) j (by rw [rest_size]; omega)]
  | succ d ih =>
    intro j h
    cases hp : p (bt s ((a + j : Nat) : Int)) with
    | true => rw [scan_yes (by omega) hp, scan_yes (by rw [rest_size]; omega) (by rw [rest_bt s a j (by omega)]; exact hp), ih (j + 1) (by omega)]; rfl
    | false => rw [scan_no hp, scan_no (by rw [rest_bt s a j (by omega)]; exact hp)]
theorem rest_take (s : ByteArray) (a n : Nat) (h : a + n ≤ s.size) : (rest s a).extract 0 n = s.extract a (a + n) := by
  apply ba_ext
  unfold rest
  rw [extract_data, extract_data, extract_data, List.drop_zero, List.take_of_length_le (l := s.data.toList) (by rw [Array.length_toList]; exact Nat.le_refl _), List.take_drop]
theorem rest_mid (s : ByteArray) (a m n : Nat) (h : a + n ≤ s.size) : (rest s a).extract m n = s.extract (a + m) (a + n) := by
  apply ba_ext
  unfold rest
  rw [extract_data, extract_data, extract_data, List.take_of_length_le (l := s.data.toList) (by rw [Array.length_toList]; exact Nat.le_refl _), List.take_drop, List.drop_drop]
end Go.Proofs.YtmddcohelcciaacDoor.PFnExactLex
