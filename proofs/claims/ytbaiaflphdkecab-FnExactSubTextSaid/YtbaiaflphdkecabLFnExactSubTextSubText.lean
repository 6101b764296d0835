/- SubText: the program's and the reference's cut of a text. -/
import Derived.Test.YtbaiaflphdkecabXLem
import Derived.Test.YtbaiaflphdkecabPFnExactSubTextx
namespace Go.Proofs.Ytbaiaflphdkecab.PFnExactSubText
set_option linter.unusedVariables false
set_option linter.unusedSimpArgs false
open Go.RowKit Go.Proofs.YtbaiaflphdkecabW.PrintWords Go.Proofs.YtbaiaflphdkecabW.PrintLast Go.Proofs.YtbaiaflphdkecabW.PrintMore Go.Proofs.Ytbaiaflphdkecab.XL

/-- Where the cut begins and ends. -/
def subLo (a : Int) : Nat := (max a 1 - 1).toNat
def subHi (z : Nat) (a n : Int) : Nat := if n = 9000000000000 then z else if n ≤ 0 then subLo a else (min ((z : Int) + 1) (a + n) - 1).toNat
def subV (s : ByteArray) (a n : Int) : ByteArray := s.extract (subLo a) (min s.size (subHi s.size a n))

theorem empty_cut (s : ByteArray) (l m : Nat) (h : min s.size m ≤ l) : s.extract l m = (⟨#[]⟩ : ByteArray) := by
  apply ba_ext
  rw [extract_data]
  exact (List.drop_eq_nil_of_le (by rw [List.length_take, Array.length_toList]; show min m s.size ≤ l; omega)).trans rfl

section
variable {s : ByteArray} (hs : s.size ≤ 140737488351232) {a n : Int} (ha : -9223372036854775808 ≤ a ∧ a ≤ 9223372036854775807) (hn : -9223372036854775808 ≤ n ∧ n ≤ 9223372036854775807)
include hs ha hn

theorem sub_loop : ∀ (d i : Nat), i + d = s.size → Ev (fun k => spec_SubText.l0 k s a n (((bytesOf s).take (min i (subHi s.size a n))).drop (subLo a)) ((i : Int) + 1)) (subV s a n) := by
  intro d
  induction d with
  | zero =>
    intro i h
    have hi : i = s.size := by omega
    refine Ev.step (f := fun _ => some (subV s a n)) (fun k => ?_) (Ev.now _)
    simp only [spec_SubText.l0]
    rw [if_neg (by omega), strOf_cut, hi]
    rfl
  | succ d ih =>
    intro i h
    have hB : i < (bytesOf s).length := by rw [bytes_len]; omega
    have w2 : wrap64 ((i : Int) + 1 + 1) = ((i + 1 : Nat) : Int) + 1 := by rw [wrap_id (by omega) (by omega)]; omega
    have w1 : wrap64 ((i : Int) + 1 - 1) = (i : Int) := by rw [wrap_id (by omega) (by omega)]; omega
    by_cases ht : subLo a ≤ i ∧ i < subHi s.size a n
    · -- taken
      have e : ((bytesOf s).take (min (i + 1) (subHi s.size a n))).drop (subLo a) = ((bytesOf s).take (min i (subHi s.size a n))).drop (subLo a) ++ [bt s (i : Int)] := by
        rw [show min (i + 1) (subHi s.size a n) = i + 1 by omega, show min i (subHi s.size a n) = i by omega, cut_snoc _ _ _ hB ht.1, bt_bytes s i (by omega)]
      have hih := ih (i + 1) (by omega)
      rw [e] at hih
      have hl : (((bytesOf s).take (min i (subHi s.size a n))).drop (subLo a)).length < 140737488355328 := by
        rw [List.length_drop, List.length_take, bytes_len]; omega
      clear e
      have hia : (i : Int) + 1 ≥ a := by have := ht.1; unfold subLo at this; omega
      refine Ev.step (fun k => ?_) hih
      simp only [spec_SubText.l0]
      rw [if_pos (by omega), if_pos hia]
      by_cases hM : n = 9000000000000
      · rw [if_pos hM, w1, if_pos (by omega), if_pos (by omega), if_pos hl, w2]
      · have hn0 : ¬ n ≤ 0 := fun z => by have := ht.2; unfold subHi at this; rw [if_neg hM, if_pos z] at this; omega
        have hx : (i : Int) + 1 - n < a := by have := ht.2; unfold subHi at this; rw [if_neg hM, if_neg hn0] at this; omega
        rw [if_neg hM, if_pos (by omega), wrap_id (n := (i : Int) + 1 - n) (by omega) (by omega), if_pos hx, w1, if_pos (by omega), if_pos (by omega), if_pos hl, w2]
    · have e : ((bytesOf s).take (min (i + 1) (subHi s.size a n))).drop (subLo a) = ((bytesOf s).take (min i (subHi s.size a n))).drop (subLo a) := by
        by_cases g : subHi s.size a n ≤ i
        · rw [show min (i + 1) (subHi s.size a n) = subHi s.size a n by omega, show min i (subHi s.size a n) = subHi s.size a n by omega]
        · rw [List.drop_eq_nil_of_le (by rw [List.length_take, bytes_len]; omega), List.drop_eq_nil_of_le (by rw [List.length_take, bytes_len]; omega)]
      have hih := ih (i + 1) (by omega)
      rw [e] at hih
      clear e
      refine Ev.step (fun k => ?_) hih
      simp only [spec_SubText.l0]
      rw [if_pos (by omega)]
      by_cases hia : (i : Int) + 1 ≥ a
      · rw [if_pos hia]
        have hM : ¬ n = 9000000000000 := fun z => ht ⟨by unfold subLo; omega, by unfold subHi; rw [if_pos z]; omega⟩
        rw [if_neg hM]
        by_cases hn0 : n > 0
        · have hx : ¬ (i : Int) + 1 - n < a := fun z => ht ⟨by unfold subLo; omega, by unfold subHi; rw [if_neg hM, if_neg (by omega)]; omega⟩
          rw [if_pos hn0, wrap_id (n := (i : Int) + 1 - n) (by omega) (by omega), if_neg hx, w2]
        · rw [if_neg hn0, w2]
      · rw [if_neg hia, w2]

theorem spec_sub : Ev (fun k => spec_SubText.f k s a n) (subV s a n) := by
  have h := sub_loop hs ha hn s.size 0 (by omega)
  rw [show min 0 (subHi s.size a n) = 0 by omega, List.take_zero, List.drop_nil, show ((0 : Nat) : Int) + 1 = 1 from rfl] at h
  exact Ev.congr (fun k => by unfold spec_SubText.f; rfl) h

theorem impl_sub : Ev (fun k => impl_SubText.f k s a n) (subV s a n) := by
  have hmx : mx a 1 = max a 1 := by unfold mx; split <;> omega
  have hmn : ∀ x y : Int, mn x y = min x y := fun x y => by unfold mn; split <;> omega
  by_cases hM : n = 9000000000000
  · have eV : subV s a n = s.extract (subLo a) s.size := by unfold subV subHi; rw [if_pos hM, Nat.min_self]
    refine Ev.congr (f := fun _ => some (subV s a n)) (fun k => ?_) (Ev.now _)
    unfold impl_SubText.f
    rw [if_pos hM, hmx, eV, wrap_id (n := (s.size : Int) + 1) (by omega) (by omega)]
    by_cases g : max a 1 ≥ (s.size : Int) + 1
    · rw [if_pos g, empty_cut s _ _ (by unfold subLo; omega)]
    · rw [if_neg g, wrap_id (n := max a 1 - 1) (by omega) (by omega), wrap_id (n := (s.size : Int) + 1 - 1) (by omega) (by omega), if_pos (by omega), if_pos (by omega), if_pos (by omega), show ((s.size : Int) + 1 - 1).toNat = s.size by omega]
      rfl
  · by_cases hn0 : n ≤ 0
    · have eV : subV s a n = (⟨#[]⟩ : ByteArray) := by
        unfold subV subHi; rw [if_neg hM, if_pos hn0]; exact empty_cut s _ _ (by omega)
      rw [eV]
      refine Ev.congr (f := fun k => impl_SubText.j0 k s a n (s.size : Int) (wrap64 ((s.size : Int) + 1)) true) (fun k => ?_) (Ev.step (f := fun _ => some _) (fun k => ?_) (Ev.now _))
      · unfold impl_SubText.f; rw [if_neg hM, if_pos hn0]
      · simp only [impl_SubText.j0]; rw [if_pos (by trivial)]
    · have hH : subHi s.size a n = (min ((s.size : Int) + 1) (a + n) - 1).toNat := by unfold subHi; rw [if_neg hM, if_neg hn0]
      have key : Ev (fun k => impl_SubText.j0 k s a n (s.size : Int) (wrap64 ((s.size : Int) + 1)) (decide (a > (s.size : Int)))) (subV s a n) := by
        by_cases hgt : a > (s.size : Int)
        · have eV : subV s a n = (⟨#[]⟩ : ByteArray) := by unfold subV; exact empty_cut s _ _ (by unfold subLo; omega)
          rw [eV, decide_eq_true hgt]
          refine Ev.step (f := fun _ => some _) (fun k => ?_) (Ev.now _)
          simp only [impl_SubText.j0]; rw [if_pos (by trivial)]
        · rw [decide_eq_false hgt]
          have yes : a + n ≤ 9223372036854775807 → Ev (fun k => impl_SubText.j1 k s a n (s.size : Int) (wrap64 ((s.size : Int) + 1)) true) (subV s a n) := by
            intro hov
            refine Ev.step (f := fun _ => some (subV s a n)) (fun k => ?_) (Ev.now _)
            simp only [impl_SubText.j1]
            rw [if_pos (by trivial), hmx, hmn, wrap_id (n := (s.size : Int) + 1) (by omega) (by omega), wrap_id (n := a + n) (by omega) (by omega)]
            unfold subV
            rw [hH]
            by_cases g : max a 1 ≥ min ((s.size : Int) + 1) (a + n)
            · rw [if_pos g, empty_cut s _ _ (by unfold subLo; omega)]
            · rw [if_neg g, wrap_id (n := max a 1 - 1) (by omega) (by omega), wrap_id (n := min ((s.size : Int) + 1) (a + n) - 1) (by omega) (by omega), if_pos (by omega), if_pos (by omega), if_pos (by omega), show min s.size (min ((s.size : Int) + 1) (a + n) - 1).toNat = (min ((s.size : Int) + 1) (a + n) - 1).toNat by omega]
              rfl
          have no : a + n > (s.size : Int) → Ev (fun k => impl_SubText.j1 k s a n (s.size : Int) (wrap64 ((s.size : Int) + 1)) false) (subV s a n) := by
            intro hov
            refine Ev.step (f := fun _ => some (subV s a n)) (fun k => ?_) (Ev.now _)
            simp only [impl_SubText.j1]
            rw [if_neg (by simp), hmx, wrap_id (n := (s.size : Int) + 1) (by omega) (by omega)]
            unfold subV
            rw [hH, show min s.size (min ((s.size : Int) + 1) (a + n) - 1).toNat = s.size by omega]
            by_cases g : max a 1 ≥ (s.size : Int) + 1
            · rw [if_pos g, empty_cut s _ _ (by unfold subLo; omega)]
            · rw [if_neg g, wrap_id (n := max a 1 - 1) (by omega) (by omega), wrap_id (n := (s.size : Int) + 1 - 1) (by omega) (by omega), if_pos (by omega), if_pos (by omega), if_pos (by omega), show ((s.size : Int) + 1 - 1).toNat = s.size by omega]
              rfl
          by_cases hneg : a < 0
          · refine Ev.step (fun k => ?_) (yes (by omega))
            simp only [impl_SubText.j0]
            rw [if_neg (by simp), if_pos hneg]
          · by_cases hle : n ≤ (s.size : Int) - a
            · refine Ev.step (fun k => ?_) (yes (by omega))
              simp only [impl_SubText.j0]
              rw [if_neg (by simp), if_neg hneg, wrap_id (n := (s.size : Int) - a) (by omega) (by omega), decide_eq_true hle]
            · refine Ev.step (fun k => ?_) (no (by omega))
              simp only [impl_SubText.j0]
              rw [if_neg (by simp), if_neg hneg, wrap_id (n := (s.size : Int) - a) (by omega) (by omega), decide_eq_false hle]
      refine Ev.congr (fun k => ?_) key
      unfold impl_SubText.f
      rw [if_neg hM, if_neg hn0]
end
end Go.Proofs.Ytbaiaflphdkecab.PFnExactSubText
