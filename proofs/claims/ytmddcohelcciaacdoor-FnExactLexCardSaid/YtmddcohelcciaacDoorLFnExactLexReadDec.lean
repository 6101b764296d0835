/- ReadDec: what the program's and the reference's read of a number come to, and that it is the same. -/
import Derived.Test.YtmddcohelcciaacDoorXLem
import Derived.Test.YtmddcohelcciaacDoorPFnExactLexx
namespace Go.Proofs.YtmddcohelcciaacDoor.PFnExactLex
set_option linter.unusedVariables false
set_option linter.unusedSimpArgs false
open Go.RowKit Go.Proofs.YtmddcohelcciaacDoorW.PrintWords Go.Proofs.YtmddcohelcciaacDoorW.PrintLast Go.Proofs.YtmddcohelcciaacDoorW.PrintMore Go.Proofs.YtmddcohelcciaacDoor.XL

theorem impl_isDigit_eq (c : Int) : impl_isDigit.f c = some (isD c) := by
  unfold impl_isDigit.f isD
  by_cases h : c ≥ 48
  · rw [if_pos h]; simp [show 48 ≤ c from h]
  · rw [if_neg h]; simp [show ¬ 48 ≤ c from h]
theorem spec_l1digit_eq (c : Int) : spec_l1digit.f c = some (isD c) := impl_isDigit_eq c
theorem impl_isSpace_eq (c : Int) : impl_isSpace.f c = some (isS c) := by
  unfold impl_isSpace.f isS
  by_cases h : c = 32
  · simp [h]
  · by_cases g : c = 9
    · simp [g]
    · rw [if_neg h, if_neg g, beq_eq_false_iff_ne.mpr h, beq_eq_false_iff_ne.mpr g]; rfl
theorem spec_l1white_eq (c : Int) : spec_l1white.f c = some (isS c) := impl_isSpace_eq c

section spec
variable {s : ByteArray} (hs : s.size ≤ 140737488351232)
include hs

theorem skip_ev : ∀ (d i : Nat), i + d = s.size → Ev (fun k => spec_l1skip.l0 k s (i : Int)) ((i + scan isS s i : Nat) : Int) := by
  intro d
  induction d with
  | zero =>
    intro i h
    rw [scan_end isS s i (by omega)]
    refine Ev.step (f := fun _ => some ((i + 0 : Nat) : Int)) (fun k => ?_) (Ev.now _)
    simp only [spec_l1skip.l0]
    rw [if_neg (by omega)]
    simp
  | succ d ih =>
    intro i h
    cases hp : isS (bt s i) with
    | true =>
      rw [scan_yes (by omega) hp]
      refine Ev.step (f := fun k => spec_l1skip.l0 k s ((i + 1 : Nat) : Int)) (fun k => ?_) ?_
      · simp only [spec_l1skip.l0]
        rw [if_pos (by omega), if_pos (by omega), spec_l1white_eq, hp]
        simp only [Option.bind_some, if_true]
        rw [wrap_id (by omega) (by omega)]
        rfl
      · have := ih (i + 1) (by omega)
        rw [show i + 1 + scan isS s (i + 1) = i + (scan isS s (i + 1) + 1) by omega] at this
        exact this
    | false =>
      rw [scan_no hp]
      refine Ev.step (f := fun _ => some ((i + 0 : Nat) : Int)) (fun k => ?_) (Ev.now _)
      simp only [spec_l1skip.l0]
      rw [if_pos (by omega), if_pos (by omega), spec_l1white_eq, hp]
      simp

omit hs in
/-- The end: what j6 answers. -/
theorem j6_ev (i : Nat) (sg : Bool) (V F cnt : Int) (hV : 0 ≤ V) (hF : 0 ≤ F) (hF9 : F ≤ 999999) (hc : cnt ≠ 0) :
    Ev (fun k => spec_ReadDec.j6 k (i : Int) sg (min (V * 1000000) 9000000000001 + F) cnt) (made sg V F, (i : Int)) := by
  refine Ev.step (f := fun _ => some (made sg V F, (i : Int))) (fun k => ?_) (Ev.now _)
  simp only [spec_ReadDec.j6]
  rw [if_neg hc]
  by_cases h : min (V * 1000000) 9000000000001 + F > 9000000000000
  · rw [if_pos h]
    have e : min (V * 1000000 + F) 9000000000000 = 9000000000000 := by omega
    cases sg <;> simp [made, e]
  · rw [if_neg h, wrap_id (by omega) (by omega)]
    have e : min (V * 1000000) 9000000000001 + F = min (V * 1000000 + F) 9000000000000 := by omega
    rw [e]
    cases sg <;> simp [made]
omit hs in
theorem j6_none (i : Nat) (sg : Bool) (n : Int) : Ev (fun k => spec_ReadDec.j6 k (i : Int) sg n 0) ((0 : Int), (0 : Int)) := by
  refine Ev.step (f := fun _ => some ((0 : Int), (0 : Int))) (fun k => ?_) (Ev.now _)
  simp only [spec_ReadDec.j6]
  simp

/-- The whole digits. -/
theorem whole_ev (sg : Bool) (R : Int × Int) : ∀ (d i : Nat) (V : Int) (cnt : Nat), i + d = s.size → 0 ≤ V → cnt ≤ i →
    Ev (fun k => spec_ReadDec.j3 k s ((i + scan isD s i : Nat) : Int) sg (min (val V (cut s i (scan isD s i)) * 1000000) 9000000000001) ((cnt + scan isD s i : Nat) : Int) false) R →
    Ev (fun k => spec_ReadDec.l0 k s (i : Int) sg (min (V * 1000000) 9000000000001) (cnt : Int)) R := by
  intro d
  induction d with
  | zero =>
    intro i V cnt h hV hc hR
    rw [scan_end isD s i (by omega)] at hR
    refine Ev.step (fun k => ?_) hR
    simp only [spec_ReadDec.l0]
    rw [if_neg (by omega)]
    rfl
  | succ d ih =>
    intro i V cnt h hV hc hR
    cases hp : isD (bt s i) with
    | false =>
      rw [scan_no hp] at hR
      refine Ev.step (fun k => ?_) hR
      simp only [spec_ReadDec.l0]
      rw [if_pos (by omega), if_pos (by omega), spec_l1digit_eq, hp]
      rfl
    | true =>
      have hb : 48 ≤ bt s i ∧ bt s i ≤ 57 := by simpa [isD] using hp
      rw [scan_yes (by omega) hp, cut_succ] at hR
      simp only [val] at hR
      refine Ev.step (f := fun k => spec_ReadDec.j3 k s (i : Int) sg (min (V * 1000000) 9000000000001) (cnt : Int) true) (fun k => ?_) ?_
      · simp only [spec_ReadDec.l0]
        rw [if_pos (by omega), if_pos (by omega), spec_l1digit_eq, hp]
        rfl
      · refine Ev.step (f := fun k => spec_ReadDec.l0 k s ((i + 1 : Nat) : Int) sg (min ((V * 10 + (bt s i - 48)) * 1000000) 9000000000001) ((cnt + 1 : Nat) : Int)) (fun k => ?_) ?_
        · simp only [spec_ReadDec.j3]
          rw [if_pos (by trivial), if_pos (by omega), if_pos (by omega)]
          have e1 : (bt s i - 48) % 256 = bt s i - 48 := by omega
          rw [e1, wrap_id (n := min (V * 1000000) 9000000000001 * 10) (by omega) (by omega)]
          rw [wrap_id (n := min (V * 1000000) 9000000000001 * 10 + (bt s i - 48) * 1000000) (by omega) (by omega)]
          rw [wrap_id (n := (i : Int) + 1) (by omega) (by omega), wrap_id (n := (cnt : Int) + 1) (by omega) (by omega)]
          by_cases g : min (V * 1000000) 9000000000001 * 10 + (bt s i - 48) * 1000000 > 9000000000000
          · rw [if_pos g]
            have e : min ((V * 10 + (bt s i - 48)) * 1000000) 9000000000001 = 9000000000001 := by omega
            rw [e]
            rfl
          · rw [if_neg g]
            have e : min (V * 1000000) 9000000000001 * 10 + (bt s i - 48) * 1000000 = min ((V * 10 + (bt s i - 48)) * 1000000) 9000000000001 := by omega
            rw [e]
            rfl
        · refine ih (i + 1) _ (cnt + 1) (by omega) (by omega) (by omega) ?_
          rw [show i + 1 + scan isD s (i + 1) = i + (scan isD s (i + 1) + 1) by omega, show cnt + 1 + scan isD s (i + 1) = cnt + (scan isD s (i + 1) + 1) by omega]
          exact hR

/-- The digits behind the point. -/
theorem part_ev (sg : Bool) (R : Int × Int) : ∀ (d i : Nat) (n u : Int) (cnt : Nat), i + d = s.size → 0 ≤ n → 0 ≤ u → n + 10 * u ≤ 100000000000000 → cnt ≤ i →
    Ev (fun k => spec_ReadDec.j6 k ((i + scan isD s i : Nat) : Int) sg (n + fr u (cut s i (scan isD s i))) ((cnt + scan isD s i : Nat) : Int)) R →
    Ev (fun k => spec_ReadDec.l1 k s (i : Int) sg n (cnt : Int) u) R := by
  intro d
  induction d with
  | zero =>
    intro i n u cnt h hn hu hb hc hR
    rw [scan_end isD s i (by omega), cut_zero] at hR
    simp only [fr, Int.add_zero] at hR
    refine Ev.step (fun k => ?_) hR
    simp only [spec_ReadDec.l1]
    rw [if_neg (by omega)]
    rfl
  | succ d ih =>
    intro i n u cnt h hn hu hb hc hR
    cases hp : isD (bt s i) with
    | false =>
      rw [scan_no hp, cut_zero] at hR
      simp only [fr, Int.add_zero] at hR
      refine Ev.step (fun k => ?_) hR
      simp only [spec_ReadDec.l1]
      rw [if_pos (by omega), if_pos (by omega), spec_l1digit_eq, hp]
      rfl
    | true =>
      have hb2 : 48 ≤ bt s i ∧ bt s i ≤ 57 := by simpa [isD] using hp
      rw [scan_yes (by omega) hp, cut_succ] at hR
      simp only [fr] at hR
      have m1 : 0 ≤ (bt s i - 48) * u := Int.mul_nonneg (by omega) hu
      have m2 : (bt s i - 48) * u ≤ 9 * u := Int.mul_le_mul_of_nonneg_right (by omega) hu
      refine Ev.step (f := fun k => spec_ReadDec.l1 k s ((i + 1 : Nat) : Int) sg (n + (bt s i - 48) * u) ((cnt + 1 : Nat) : Int) (u / 10)) (fun k => ?_) ?_
      · simp only [spec_ReadDec.l1]
        rw [if_pos (by omega), if_pos (by omega), spec_l1digit_eq, hp]
        simp only [Option.bind_some, if_true]
        have e1 : (bt s i - 48) % 256 = bt s i - 48 := by omega
        rw [e1, Int.tdiv_eq_ediv_of_nonneg hu, wrap_id (n := (bt s i - 48) * u) (by omega) (by omega), wrap_id (n := n + (bt s i - 48) * u) (by omega) (by omega), wrap_id (n := u / 10) (by omega) (by omega), wrap_id (n := (i : Int) + 1) (by omega) (by omega), wrap_id (n := (cnt : Int) + 1) (by omega) (by omega)]
        rfl
      · refine ih (i + 1) _ _ (cnt + 1) (by omega) (by omega) (by omega) (by omega) (by omega) ?_
        rw [show i + 1 + scan isD s (i + 1) = i + (scan isD s (i + 1) + 1) by omega, show cnt + 1 + scan isD s (i + 1) = cnt + (scan isD s (i + 1) + 1) by omega, Int.add_assoc]
        exact hR

theorem spec_tail (q : Nat) (sg : Bool) (hq : q ≤ s.size) : Ev (fun k => spec_ReadDec.l0 k s (q : Int) sg 0 0) (tail s q sg) := by
  have hw := scan_le' isD s q hq
  have hwd := cut_digits s (scan isD s q) q (Nat.le_refl _)
  have hV := val_ge hwd 0 (by omega)
  refine whole_ev hs sg _ (s.size - q) q 0 0 (by omega) (by omega) (by omega) ?_
  unfold tail
  generalize hW : scan isD s q = w at *
  generalize hVV : val 0 (cut s q w) = V at *
  simp only [Nat.zero_add]
  by_cases hp : q + w < s.size ∧ bt s ((q + w : Nat) : Int) = 46
  · rw [if_pos hp]
    have hm := scan_le' isD s (q + w + 1) (by omega)
    have hmd := cut_digits s (scan isD s (q + w + 1)) (q + w + 1) (Nat.le_refl _)
    have hF0 : fr 100000 (cut s (q + w + 1) (scan isD s (q + w + 1))) = val 0 ((cut s (q + w + 1) (scan isD s (q + w + 1)) ++ [48, 48, 48, 48, 48, 48]).take 6) := fr_six _
    have hF := six_bounds (six_digits hmd) (six_length _)
    rw [← hF0] at hF
    by_cases hwm : w + scan isD s (q + w + 1) = 0
    · rw [if_pos hwm]
      have hw0 : w = 0 := by omega
      have hm0 : scan isD s (q + w + 1) = 0 := by omega
      refine Ev.step (f := fun k => spec_ReadDec.j4 k s ((q + w : Nat) : Int) sg (min (V * 1000000) 9000000000001) (w : Int) false) (fun k => ?_) ?_
      · simp only [spec_ReadDec.j3]
        rw [if_neg (by simp), if_pos (by omega), if_pos (by omega), if_pos hp.2, if_neg (by omega), wrap_id (n := ((q + w : Nat) : Int) + 1) (by omega) (by omega)]
        by_cases g : ((q + w : Nat) : Int) + 1 < (s.size : Int)
        · rw [if_pos g, if_pos (by omega), spec_l1digit_eq, show ((q + w : Nat) : Int) + 1 = ((q + w + 1 : Nat) : Int) by omega, scan_zero (p := isD) (by omega) hm0]
          rfl
        · rw [if_neg g]
      · refine Ev.step (f := fun k => spec_ReadDec.j6 k ((q + w : Nat) : Int) sg (min (V * 1000000) 9000000000001) (w : Int)) (fun k => ?_) ?_
        · simp only [spec_ReadDec.j4]
          rw [if_neg (by simp)]
        · rw [hw0]
          exact j6_none _ _ _
    · rw [if_neg hwm]
      refine Ev.step (f := fun k => spec_ReadDec.j4 k s ((q + w : Nat) : Int) sg (min (V * 1000000) 9000000000001) (w : Int) true) (fun k => ?_) ?_
      · simp only [spec_ReadDec.j3]
        rw [if_neg (by simp), if_pos (by omega), if_pos (by omega), if_pos hp.2]
        by_cases g : (w : Int) > 0
        · rw [if_pos g]
        · obtain ⟨g1, g2⟩ := scan_pos (p := isD) (s := s) (i := q + w + 1) (by omega)
          rw [if_neg g, wrap_id (n := ((q + w : Nat) : Int) + 1) (by omega) (by omega), if_pos (by omega), if_pos (by omega), spec_l1digit_eq, show ((q + w : Nat) : Int) + 1 = ((q + w + 1 : Nat) : Int) by omega, g2]
          rfl
      · refine Ev.step (f := fun k => spec_ReadDec.l1 k s ((q + w + 1 : Nat) : Int) sg (min (V * 1000000) 9000000000001) (w : Int) 100000) (fun k => ?_) ?_
        · simp only [spec_ReadDec.j4]
          rw [if_pos (by trivial), wrap_id (n := ((q + w : Nat) : Int) + 1) (by omega) (by omega)]
          rfl
        · refine part_ev hs sg _ (s.size - (q + w + 1)) (q + w + 1) _ _ w (by omega) (by omega) (by omega) (by omega) (by omega) ?_
          exact j6_ev (q + w + 1 + scan isD s (q + w + 1)) sg V _ _ hV hF.1 hF.2 (by omega)
  · rw [if_neg hp]
    refine Ev.step (f := fun k => spec_ReadDec.j4 k s ((q + w : Nat) : Int) sg (min (V * 1000000) 9000000000001) (w : Int) false) (fun k => ?_) ?_
    · simp only [spec_ReadDec.j3]
      rw [if_neg (by simp)]
      by_cases g : ((q + w : Nat) : Int) < (s.size : Int)
      · rw [if_pos g, if_pos (by omega), if_neg (fun z => hp ⟨by omega, z⟩)]
      · rw [if_neg g]
    · refine Ev.step (f := fun k => spec_ReadDec.j6 k ((q + w : Nat) : Int) sg (min (V * 1000000) 9000000000001) (w : Int)) (fun k => ?_) ?_
      · simp only [spec_ReadDec.j4]
        rw [if_neg (by simp)]
      · by_cases hw0 : w = 0
        · rw [if_pos hw0, hw0]
          exact j6_none _ _ _
        · rw [if_neg hw0]
          have := j6_ev (q + w) sg V 0 (w : Int) hV (by omega) (by omega) (by omega)
          rw [Int.add_zero] at this
          exact this

end spec

theorem spec_read (s : ByteArray) (hs : s.size ≤ 140737488351232) : Ev (fun k => spec_ReadDec.f k s) (readV s) := by
  have h0 := skip_ev hs s.size 0 (by omega)
  have hp := scan_le' isS s 0 (by omega)
  rw [Nat.zero_add] at h0 hp
  unfold spec_ReadDec.f
  refine Ev.bind (a := ((scan isS s 0 : Nat) : Int)) ?_ ?_
  · unfold spec_l1skip.f; exact h0
  · unfold readV
    generalize scan isS s 0 = p at *
    by_cases hlt : p < s.size
    · have e0 : ((p : Nat) : Int) < (s.size : Int) := by omega
      simp only [if_pos e0, if_pos (show (0 : Int) ≤ (p : Int) by omega)]
      by_cases h43 : bt s (p : Int) = 43
      · simp only [if_pos h43]
        rw [if_pos ⟨hlt, .inl h43⟩]
        refine Ev.step (f := fun k => spec_ReadDec.j1 k s ((p + 1 : Nat) : Int) (bt s (p : Int) == 45)) (fun k => ?_) ?_
        · simp only [spec_ReadDec.j0]
          rw [if_pos (by trivial), if_pos (by omega), if_pos e0, wrap_id (by omega) (by omega)]
          rfl
        · exact Ev.step (fun k => rfl) (spec_tail hs (p + 1) _ (by omega))
      · simp only [if_neg h43]
        by_cases h45 : bt s (p : Int) = 45
        · rw [if_pos ⟨hlt, .inr h45⟩]
          refine Ev.step (f := fun k => spec_ReadDec.j1 k s ((p + 1 : Nat) : Int) (bt s (p : Int) == 45)) (fun k => ?_) ?_
          · simp only [spec_ReadDec.j0]
            rw [if_pos (by simp [h45]), if_pos (by omega), if_pos e0, wrap_id (by omega) (by omega)]
            rfl
          · exact Ev.step (fun k => rfl) (spec_tail hs (p + 1) _ (by omega))
        · rw [if_neg (by rintro ⟨_, h | h⟩ <;> contradiction)]
          refine Ev.step (f := fun k => spec_ReadDec.j1 k s (p : Int) false) (fun k => ?_) ?_
          · simp only [spec_ReadDec.j0]
            rw [if_neg (by simp [h45])]
          · exact Ev.step (fun k => rfl) (spec_tail hs p _ (by omega))
    · simp only [if_neg (show ¬ ((p : Nat) : Int) < (s.size : Int) by omega)]
      rw [if_neg (fun z => hlt z.1)]
      refine Ev.step (f := fun k => spec_ReadDec.j1 k s (p : Int) false) (fun k => ?_) ?_
      · simp only [spec_ReadDec.j0]
        rw [if_neg (by simp)]
      · exact Ev.step (fun k => rfl) (spec_tail hs p _ (by omega))

section impl
variable {s : ByteArray} (hs : s.size ≤ 140737488351232)
include hs

theorem runS_ev : ∀ (d i c : Nat), i + c + d = s.size → Ev (fun k => impl_run_isSpace.l0 k s (i : Int) (c : Int)) ((c + scan isS s (i + c) : Nat) : Int) := by
  intro d
  induction d with
  | zero =>
    intro i c h
    rw [scan_end isS s (i + c) (by omega)]
    refine Ev.step (f := fun _ => some ((c + 0 : Nat) : Int)) (fun k => ?_) (Ev.now _)
    simp only [impl_run_isSpace.l0]
    rw [wrap_id (by omega) (by omega), if_neg (by omega)]
    simp
  | succ d ih =>
    intro i c h
    have e : ((i : Int) + (c : Int)) = ((i + c : Nat) : Int) := by omega
    cases hp : isS (bt s ((i + c : Nat) : Int)) with
    | true =>
      rw [scan_yes (by omega) hp]
      refine Ev.step (f := fun k => impl_run_isSpace.l0 k s (i : Int) ((c + 1 : Nat) : Int)) (fun k => ?_) ?_
      · simp only [impl_run_isSpace.l0]
        rw [wrap_id (n := (i : Int) + (c : Int)) (by omega) (by omega), e, if_pos (by omega), if_pos (by omega), impl_isSpace_eq, hp]
        simp only [Option.bind_some, if_true]
        rw [wrap_id (by omega) (by omega)]
        rfl
      · have := ih i (c + 1) (by omega)
        rw [show c + 1 + scan isS s (i + (c + 1)) = c + (scan isS s (i + c + 1) + 1) by rw [Nat.add_assoc i c 1]; omega] at this
        exact this
    | false =>
      rw [scan_no hp]
      refine Ev.step (f := fun _ => some ((c + 0 : Nat) : Int)) (fun k => ?_) (Ev.now _)
      simp only [impl_run_isSpace.l0]
      rw [wrap_id (n := (i : Int) + (c : Int)) (by omega) (by omega), e, if_pos (by omega), if_pos (by omega), impl_isSpace_eq, hp]
      simp
theorem runS (i : Nat) (hi : i ≤ s.size) : Ev (fun k => impl_run_isSpace.f k s (i : Int)) ((scan isS s i : Nat) : Int) := by
  have := runS_ev hs (s.size - i) i 0 (by omega)
  rw [Nat.zero_add, Nat.add_zero] at this
  exact this

theorem runD_ev : ∀ (d i c : Nat), i + c + d = s.size → Ev (fun k => impl_run_isDigit.l0 k s (i : Int) (c : Int)) ((c + scan isD s (i + c) : Nat) : Int) := by
  intro d
  induction d with
  | zero =>
    intro i c h
    rw [scan_end isD s (i + c) (by omega)]
    refine Ev.step (f := fun _ => some ((c + 0 : Nat) : Int)) (fun k => ?_) (Ev.now _)
    simp only [impl_run_isDigit.l0]
    rw [wrap_id (by omega) (by omega), if_neg (by omega)]
    simp
  | succ d ih =>
    intro i c h
    have e : ((i : Int) + (c : Int)) = ((i + c : Nat) : Int) := by omega
    cases hp : isD (bt s ((i + c : Nat) : Int)) with
    | true =>
      rw [scan_yes (by omega) hp]
      refine Ev.step (f := fun k => impl_run_isDigit.l0 k s (i : Int) ((c + 1 : Nat) : Int)) (fun k => ?_) ?_
      · simp only [impl_run_isDigit.l0]
        rw [wrap_id (n := (i : Int) + (c : Int)) (by omega) (by omega), e, if_pos (by omega), if_pos (by omega), impl_isDigit_eq, hp]
        simp only [Option.bind_some, if_true]
        rw [wrap_id (by omega) (by omega)]
        rfl
      · have := ih i (c + 1) (by omega)
        rw [show c + 1 + scan isD s (i + (c + 1)) = c + (scan isD s (i + c + 1) + 1) by rw [Nat.add_assoc i c 1]; omega] at this
        exact this
    | false =>
      rw [scan_no hp]
      refine Ev.step (f := fun _ => some ((c + 0 : Nat) : Int)) (fun k => ?_) (Ev.now _)
      simp only [impl_run_isDigit.l0]
      rw [wrap_id (n := (i : Int) + (c : Int)) (by omega) (by omega), e, if_pos (by omega), if_pos (by omega), impl_isDigit_eq, hp]
      simp
theorem runD (i : Nat) (hi : i ≤ s.size) : Ev (fun k => impl_run_isDigit.f k s (i : Int)) ((scan isD s i : Nat) : Int) := by
  have := runD_ev hs (s.size - i) i 0 (by omega)
  rw [Nat.zero_add, Nat.add_zero] at this
  exact this
omit hs in
theorem mn_eq (a b : Int) : mn a b = min a b := by unfold mn; split <;> omega

omit hs in
theorem loop_ev (y : List Int) (hy : ∀ c ∈ y, 48 ≤ c ∧ c ≤ 57) (hl : y.length ≤ 281474976710656) (at_ : Int) (sg : Bool) : ∀ (d j : Nat) (V : Int), j + d = y.length → 0 ≤ V →
    Ev (fun k => impl_ReadDec.l0 k at_ sg (min V 9000000000001) y (y.length : Int) (j : Int)) (if sg = true then -(min (val V (y.drop j)) 9000000000000) else min (val V (y.drop j)) 9000000000000, at_) := by
  intro d
  induction d with
  | zero =>
    intro j V h hV
    rw [List.drop_of_length_le (by omega)]
    refine Ev.step (f := fun _ => some (if sg = true then -(min V 9000000000000) else min V 9000000000000, at_)) (fun k => ?_) (Ev.now _)
    simp only [impl_ReadDec.l0]
    rw [if_neg (by omega), mn_eq, show min (min V 9000000000001) 9000000000000 = min V 9000000000000 by omega, wrap_id (by omega) (by omega)]
    cases sg <;> simp
  | succ d ih =>
    intro j V h hV
    have hj : j < y.length := by omega
    have hc := hy y[j] (List.getElem_mem hj)
    rw [List.drop_eq_getElem_cons hj]
    simp only [val]
    refine Ev.step (f := fun k => impl_ReadDec.l0 k at_ sg (min (V * 10 + (y[j] - 48)) 9000000000001) y (y.length : Int) ((j + 1 : Nat) : Int)) (fun k => ?_) (ih (j + 1) (V * 10 + (y[j] - 48)) (by omega) (by omega))
    simp only [impl_ReadDec.l0]
    have e : rd y (j : Int) = y[j] := by simp [rd, List.getD_eq_getElem?_getD, List.getElem?_eq_getElem hj]
    rw [if_pos (by omega), if_pos (by omega), if_pos (by omega), e, mn_eq, show (y[j] - 48) % 256 = y[j] - 48 by omega, wrap_id (n := min V 9000000000001 * 10) (by omega) (by omega), wrap_id (n := min V 9000000000001 * 10 + (y[j] - 48)) (by omega) (by omega), wrap_id (n := (j : Int) + 1) (by omega) (by omega), show min (min V 9000000000001 * 10 + (y[j] - 48)) 9000000000001 = min (V * 10 + (y[j] - 48)) 9000000000001 by omega]
    rfl

omit hs in
theorem bytesOf_append (a b : ByteArray) : bytesOf (a ++ b) = bytesOf a ++ bytesOf b := by simp [bytesOf]
omit hs in
theorem bytesOf_take (a : ByteArray) (n : Nat) : bytesOf (a.extract 0 n) = (bytesOf a).take n := by
  unfold bytesOf
  rw [extract_data]
  simp
omit hs in
theorem toList_nil (a : ByteArray) : a.toList = [] ↔ a.size = 0 := by
  rw [toList_data]
  simp [← ByteArray.size_data]

/-- The digits are reckoned. -/
theorem j4_ev (at_ : Int) (sg : Bool) (x7 x8 : ByteArray) (h7 : ∀ c ∈ bytesOf x7, 48 ≤ c ∧ c ≤ 57) (h8 : ∀ c ∈ bytesOf x8, 48 ≤ c ∧ c ≤ 57) (z7 : x7.size ≤ s.size) (z8 : x8.size ≤ s.size) :
    Ev (fun k => impl_ReadDec.j4 k at_ sg x7 x8 false) (made sg (val 0 (bytesOf x7)) (fr 100000 (bytesOf x8)), at_) := by
  have hz : bytesOf (⟨#[48, 48, 48, 48, 48, 48]⟩ : ByteArray) = [48, 48, 48, 48, 48, 48] := by decide
  have hz2 : (⟨#[48, 48, 48, 48, 48, 48]⟩ : ByteArray).size = 6 := rfl
  have hy : bytesOf (x7 ++ ((x8 ++ (⟨#[48, 48, 48, 48, 48, 48]⟩ : ByteArray)).extract 0 6)) = bytesOf x7 ++ (bytesOf x8 ++ [48, 48, 48, 48, 48, 48]).take 6 := by
    rw [bytesOf_append, bytesOf_take, bytesOf_append, hz]
  have hyd : ∀ c ∈ bytesOf x7 ++ (bytesOf x8 ++ [48, 48, 48, 48, 48, 48]).take 6, 48 ≤ c ∧ c ≤ 57 := by
    intro c hc
    rcases List.mem_append.1 hc with h | h
    · exact h7 c h
    · exact six_digits h8 c h
  have hyl : (bytesOf x7 ++ (bytesOf x8 ++ [48, 48, 48, 48, 48, 48]).take 6).length = x7.size + 6 := by rw [List.length_append, six_length, bytes_len]
  have key := loop_ev _ hyd (by rw [hyl]; omega) at_ sg _ 0 0 (Nat.zero_add _) (by omega)
  rw [List.drop_zero, val_append, val_six _ (six_length _), ← fr_six] at key
  have s1 : (x8 ++ (⟨#[48, 48, 48, 48, 48, 48]⟩ : ByteArray)).size = x8.size + 6 := by rw [ByteArray.size_append, hz2]
  have s2 : ((x8 ++ (⟨#[48, 48, 48, 48, 48, 48]⟩ : ByteArray)).extract 0 6).size = 6 := by rw [size_extract, s1]; omega
  have s3 : (x7 ++ ((x8 ++ (⟨#[48, 48, 48, 48, 48, 48]⟩ : ByteArray)).extract 0 6)).size = x7.size + 6 := by rw [ByteArray.size_append, s2]
  refine Ev.step (fun k => ?_) key
  simp only [impl_ReadDec.j4]
  rw [if_neg (by simp), if_pos (by omega), if_pos (by omega), if_pos (by omega), if_pos (by omega), if_pos (by omega), hy]
  rfl

theorem j3_ev (at_ : Int) (sg : Bool) (x7 x8 : ByteArray) (h7 : ∀ c ∈ bytesOf x7, 48 ≤ c ∧ c ≤ 57) (h8 : ∀ c ∈ bytesOf x8, 48 ≤ c ∧ c ≤ 57) (z7 : x7.size ≤ s.size) (z8 : x8.size ≤ s.size) :
    Ev (fun k => impl_ReadDec.j3 k at_ sg x7 x8) (if x7.size + x8.size = 0 then (0, 0) else (made sg (val 0 (bytesOf x7)) (fr 100000 (bytesOf x8)), at_)) := by
  by_cases h : x7.size + x8.size = 0
  · rw [if_pos h]
    refine Ev.step (f := fun k => impl_ReadDec.j4 k at_ sg x7 x8 true) (fun k => ?_) (Ev.step (f := fun _ => some (0, 0)) (fun k => ?_) (Ev.now _))
    · simp only [impl_ReadDec.j3]
      rw [if_pos ((toList_nil x7).2 (by omega)), (toList_nil x8).2 (by omega)]
      rfl
    · simp only [impl_ReadDec.j4]
      rw [if_pos (by trivial)]
  · rw [if_neg h]
    refine Ev.step (f := fun k => impl_ReadDec.j4 k at_ sg x7 x8 false) (fun k => ?_) (j4_ev hs at_ sg x7 x8 h7 h8 z7 z8)
    simp only [impl_ReadDec.j3]
    by_cases g : x7.toList = []
    · rw [if_pos g]
      have g7 := (toList_nil x7).1 g
      have g8 : (x8.toList == ([] : List UInt8)) = false := by
        rw [beq_eq_false_iff_ne]
        intro z
        exact h (by have := (toList_nil x8).1 z; omega)
      rw [g8]
    · rw [if_neg g]

theorem impl_tail (q : Nat) (sg : Bool) (hq : q ≤ s.size) : Ev (fun k => impl_ReadDec.j1 k s (q : Int) sg) (tail s q sg) := by
  have hw := scan_le' isD s q hq
  have hwd := cut_digits s (scan isD s q) q (Nat.le_refl _)
  have h1 := runD hs q hq
  unfold tail
  generalize hW : scan isD s q = w at *
  have x7 : bytesOf (s.extract q (q + w)) = cut s q w := bytesOf_extract s q w hw
  have z7 : (s.extract q (q + w)).size = w := by rw [size_extract]; omega
  have h0 : bytesOf (⟨#[]⟩ : ByteArray) = [] := rfl
  by_cases hp : q + w < s.size ∧ bt s ((q + w : Nat) : Int) = 46
  · rw [if_pos hp]
    have hm := scan_le' isD s (q + w + 1) (by omega)
    have hmd := cut_digits s (scan isD s (q + w + 1)) (q + w + 1) (Nat.le_refl _)
    have h2 := runD hs (q + w + 1) (by omega)
    generalize scan isD s (q + w + 1) = m at *
    have x8 : bytesOf (s.extract (q + w + 1) (q + w + 1 + m)) = cut s (q + w + 1) m := bytesOf_extract s (q + w + 1) m hm
    have z8 : (s.extract (q + w + 1) (q + w + 1 + m)).size = m := by rw [size_extract]; omega
    have key : Ev (fun k => impl_ReadDec.j2 k s ((q + w : Nat) : Int) sg (w : Int) (s.extract q (q + w)) (⟨#[]⟩ : ByteArray) true) (if w + m = 0 then (0, 0) else (made sg (val 0 (cut s q w)) (fr 100000 (cut s (q + w + 1) m)), ((q + w + 1 + m : Nat) : Int))) := by
      by_cases hwm : w + m = 0
      · rw [if_pos hwm]
        have h3 := j3_ev hs ((q + w : Nat) : Int) sg (s.extract q (q + w)) (⟨#[]⟩ : ByteArray) (by rw [x7]; exact hwd) (by rw [h0]; simp) (by omega) (Nat.zero_le _)
        rw [if_pos (by rw [z7]; show w + 0 = 0; omega)] at h3
        refine ev_use h2 h3 (fun k g1 g2 => ?_)
        simp only [impl_ReadDec.j2]
        rw [if_pos (by trivial), wrap_nat1 (q + w) (by omega), g1, Option.bind_some, wrap_nat w m (by omega), if_neg (by omega)]
        exact g2
      · rw [if_neg hwm]
        have h3 := j3_ev hs ((q + w + 1 + m : Nat) : Int) sg (s.extract q (q + w)) (s.extract (q + w + 1) (q + w + 1 + m)) (by rw [x7]; exact hwd) (by rw [x8]; exact hmd) (by omega) (by omega)
        rw [if_neg (by rw [z7, z8]; omega), x7, x8] at h3
        refine ev_use h2 h3 (fun k g1 g2 => ?_)
        simp only [impl_ReadDec.j2]
        rw [if_pos (by trivial), wrap_nat1 (q + w) (by omega), g1, Option.bind_some, wrap_nat w m (by omega), if_pos (by omega), if_pos (by omega), wrap_nat (q + w + 1) m (by omega), if_pos (by omega), if_pos (by omega), wrap_1nat m (by omega), wrap_nat (q + w) (1 + m) (by omega), show q + w + (1 + m) = q + w + 1 + m by omega]
        exact g2
    refine ev_use h1 key (fun k g1 g2 => ?_)
    simp only [impl_ReadDec.j1]
    rw [g1, Option.bind_some, wrap_nat q w (by omega), if_pos (by omega), if_pos (by omega), if_pos (by omega), if_pos (by omega), if_pos (by omega), hp.2]
    exact g2
  · rw [if_neg hp]
    have h3 := j3_ev hs ((q + w : Nat) : Int) sg (s.extract q (q + w)) (⟨#[]⟩ : ByteArray) (by rw [x7]; exact hwd) (by rw [h0]; simp) (by omega) (Nat.zero_le _)
    have e6 : (⟨#[]⟩ : ByteArray).size = 0 := rfl
    rw [z7, e6, Nat.add_zero, x7, h0] at h3
    have key : Ev (fun k => impl_ReadDec.j2 k s ((q + w : Nat) : Int) sg (w : Int) (s.extract q (q + w)) (⟨#[]⟩ : ByteArray) false) (if w = 0 then (0, 0) else (made sg (val 0 (cut s q w)) 0, ((q + w : Nat) : Int))) := by
      refine Ev.step (fun k => ?_) h3
      simp only [impl_ReadDec.j2]
      rw [if_neg (by simp)]
    refine ev_use h1 key (fun k g1 g2 => ?_)
    simp only [impl_ReadDec.j1]
    rw [g1, Option.bind_some, wrap_nat q w (by omega), if_pos (by omega), if_pos (by omega), if_pos (by omega)]
    by_cases g : ((q + w : Nat) : Int) < (s.size : Int)
    · rw [if_pos g, if_pos (by omega)]
      have g6 : (bt s ((q + w : Nat) : Int) == 46) = false := by
        rw [beq_eq_false_iff_ne]
        exact fun z => hp ⟨by omega, z⟩
      rw [g6]
      exact g2
    · rw [if_neg g]
      exact g2
end impl

theorem impl_read (s : ByteArray) (hs : s.size ≤ 140737488351232) : Ev (fun k => impl_ReadDec.f k s) (readV s) := by
  have h0 := runS hs 0 (by omega)
  have hp := scan_le' isS s 0 (by omega)
  rw [Nat.zero_add] at hp
  unfold readV
  generalize scan isS s 0 = p at *
  by_cases hlt : p < s.size
  · have e0 : ((p : Nat) : Int) < (s.size : Int) := by omega
    by_cases h43 : bt s (p : Int) = 43
    · rw [if_pos ⟨hlt, .inl h43⟩]
      have key : Ev (fun k => impl_ReadDec.j0 k s (p : Int) false true) (tail s (p + 1) (bt s (p : Int) == 45)) := by
        refine Ev.step (fun k => ?_) (impl_tail hs (p + 1) (bt s (p : Int) == 45) (by omega))
        simp only [impl_ReadDec.j0]
        rw [if_pos (by trivial), if_pos (by omega), if_pos e0, wrap_id (by omega) (by omega)]
        rfl
      refine ev_use0 h0 key (fun k g1 g2 => ?_)
      unfold impl_ReadDec.f
      have g1' : impl_run_isSpace.f k s 0 = some (p : Int) := g1
      rw [g1', Option.bind_some, if_pos e0, if_pos (by omega), if_pos h43]
      exact g2
    · by_cases h45 : bt s (p : Int) = 45
      · rw [if_pos ⟨hlt, .inr h45⟩]
        have key : Ev (fun k => impl_ReadDec.j0 k s (p : Int) false (bt s (p : Int) == 45)) (tail s (p + 1) (bt s (p : Int) == 45)) := by
          refine Ev.step (fun k => ?_) (impl_tail hs (p + 1) (bt s (p : Int) == 45) (by omega))
          simp only [impl_ReadDec.j0]
          rw [if_pos (by simp [h45]), if_pos (by omega), if_pos e0, wrap_id (by omega) (by omega)]
          rfl
        refine ev_use0 h0 key (fun k g1 g2 => ?_)
        unfold impl_ReadDec.f
        have g1' : impl_run_isSpace.f k s 0 = some (p : Int) := g1
        rw [g1', Option.bind_some, if_pos e0, if_pos (by omega), if_neg h43]
        exact g2
      · rw [if_neg (by rintro ⟨_, h | h⟩ <;> contradiction)]
        have key : Ev (fun k => impl_ReadDec.j0 k s (p : Int) false (bt s (p : Int) == 45)) (tail s p false) := by
          refine Ev.step (fun k => ?_) (impl_tail hs p false (by omega))
          simp only [impl_ReadDec.j0]
          rw [if_neg (by simp [h45])]
        refine ev_use0 h0 key (fun k g1 g2 => ?_)
        unfold impl_ReadDec.f
        have g1' : impl_run_isSpace.f k s 0 = some (p : Int) := g1
        rw [g1', Option.bind_some, if_pos e0, if_pos (by omega), if_neg h43]
        exact g2
  · rw [if_neg (fun z => hlt z.1)]
    have key : Ev (fun k => impl_ReadDec.j0 k s (p : Int) false false) (tail s p false) := by
      refine Ev.step (fun k => ?_) (impl_tail hs p false (by omega))
      simp only [impl_ReadDec.j0]
      rw [if_neg (by simp)]
    refine ev_use0 h0 key (fun k g1 g2 => ?_)
    unfold impl_ReadDec.f
    have g1' : impl_run_isSpace.f k s 0 = some (p : Int) := g1
    rw [g1', Option.bind_some, if_neg (by omega)]
    exact g2


end Go.Proofs.YtmddcohelcciaacDoor.PFnExactLex
