/- PlaceOf: lines and places, in the program and in the reference. -/
import Derived.Test.YtejjmidhkalfeaaXLem
import Derived.Test.YtejjmidhkalfeaaPFnExactPlaceOfx
namespace Go.Proofs.Ytejjmidhkalfeaa.PFnExactPlaceOf
set_option linter.unusedVariables false
set_option linter.unusedSimpArgs false
open Go.RowKit Go.Proofs.YtejjmidhkalfeaaW.PrintWords Go.Proofs.YtejjmidhkalfeaaW.PrintLast Go.Proofs.YtejjmidhkalfeaaW.PrintMore Go.Proofs.Ytejjmidhkalfeaa.XL

def lineN (s : ByteArray) : Nat → Nat
  | 0 => 0
  | i + 1 => if bt s (i : Int) = 10 then lineN s i + 1 else lineN s i
def fromN (s : ByteArray) : Nat → Nat
  | 0 => 0
  | i + 1 => if bt s (i : Int) = 10 then i + 1 else fromN s i
theorem lineN_le (s : ByteArray) : ∀ i, lineN s i ≤ i := by
  intro i
  induction i with
  | zero => exact Nat.le_refl _
  | succ i ih => simp only [lineN]; split <;> omega
theorem fromN_le (s : ByteArray) : ∀ i, fromN s i ≤ i := by
  intro i
  induction i with
  | zero => exact Nat.le_refl _
  | succ i ih => simp only [fromN]; split <;> omega

theorem place_loop {s : ByteArray} (hs : s.size ≤ 140737488351232) (q : Nat) (hq : q ≤ s.size) : ∀ (d i : Nat), i + d = q →
    Ev (fun k => spec_PlaceOf.l0 k s (q : Int) ((lineN s i : Nat) + 1) (fromN s i : Nat) (i : Int)) (((lineN s q : Nat) : Int) + 1, (q : Int) - (fromN s q : Nat) + 1) := by
  intro d
  induction d with
  | zero =>
    intro i h
    have e : i = q := by omega
    subst e
    have := fromN_le s i
    refine Ev.step (f := fun _ => some (((lineN s i : Nat) : Int) + 1, (i : Int) - (fromN s i : Nat) + 1)) (fun k => ?_) (Ev.now _)
    simp only [spec_PlaceOf.l0]
    rw [if_neg (by omega), wrap_id (n := (i : Int) - (fromN s i : Nat)) (by omega) (by omega), wrap_id (n := (i : Int) - (fromN s i : Nat) + 1) (by omega) (by omega)]
  | succ d ih =>
    intro i h
    have hl := lineN_le s i
    have hih := ih (i + 1) (by omega)
    by_cases hb : bt s (i : Int) = 10
    · simp only [lineN, fromN, if_pos hb] at hih
      refine Ev.step (fun k => ?_) hih
      simp only [spec_PlaceOf.l0]
      rw [if_pos (by omega), if_pos (by omega), if_pos (by omega), if_pos hb, wrap_id (n := ((lineN s i : Nat) : Int) + 1 + 1) (by omega) (by omega), wrap_nat1 i (by omega)]
      rfl
    · simp only [lineN, fromN, if_neg hb] at hih
      refine Ev.step (fun k => ?_) hih
      simp only [spec_PlaceOf.l0]
      rw [if_pos (by omega), if_pos (by omega), if_pos (by omega), if_neg hb, wrap_nat1 i (by omega)]

theorem bt_ten (s : ByteArray) (i : Nat) (h : i < s.data.toList.length) : (s.data.toList[i] = 10) ↔ bt s (i : Int) = 10 := by
  have h' : i < s.size := by rw [Array.length_toList] at h; exact h
  have e : bt s (i : Int) = ((s.data.toList[i]).toNat : Int) := by
    unfold bt
    rw [dif_pos (by simpa using h')]
    simp
    rfl
  rw [e]
  constructor
  · intro z; rw [z]; rfl
  · intro z
    apply UInt8.toNat.inj
    have : (s.data.toList[i]).toNat = 10 := by omega
    rw [this]
    rfl

theorem count_line (s : ByteArray) : ∀ i, i ≤ s.size → (s.data.toList.take i).count 10 = lineN s i := by
  intro i
  induction i with
  | zero => intro _; simp [lineN]
  | succ i ih =>
    intro h
    have hl : i < s.data.toList.length := by rw [Array.length_toList]; exact h
    rw [List.take_succ_eq_append_getElem hl, List.count_append, ih (by omega), List.count_singleton]
    simp only [lineN]
    by_cases hb : bt s (i : Int) = 10
    · rw [if_pos hb, if_pos (by simpa using (bt_ten s i hl).2 hb)]
    · rw [if_neg hb, if_neg (by simpa using fun z => hb ((bt_ten s i hl).1 z))]
      rfl

theorem byte_bt (s : ByteArray) (i : Nat) (h : i < s.size) : ((s.data[i]!).toNat : Int) = bt s (i : Int) := by
  have h' : i < s.data.size := h
  rw [getElem!_pos s.data i h']
  unfold bt
  rw [dif_pos (by simpa using h)]
  simp
  rfl

theorem last_from (s : ByteArray) (q : Nat) (hq : q ≤ s.size) : ∀ i, i ≤ q → Lib.lastIdx (s.extract 0 q) 10 i = (fromN s i : Int) - 1 := by
  have hz : (s.extract 0 q).size = q := by rw [size_extract]; omega
  intro i
  induction i with
  | zero => intro _; rfl
  | succ i ih =>
    intro h
    simp only [Lib.lastIdx, fromN]
    rw [byte_bt _ i (by omega), bt_extract s 0 q i (by omega) (by omega), show ((0 : Nat) : Int) + (i : Int) = (i : Int) by omega]
    by_cases hb : bt s (i : Int) = 10
    · rw [if_pos hb, if_pos hb]; omega
    · rw [if_neg hb, if_neg hb]; exact ih (by omega)

theorem place_same {s : ByteArray} (hs : s.size ≤ 140737488351232) (a : Int) : ∃ r, Ev (fun k => spec_PlaceOf.f k s a) r ∧ impl_PlaceOf.f s a = some r := by
  have no : Ev (fun k => spec_PlaceOf.j0 k s a true) (0, 0) := by
    refine Ev.step (f := fun _ => some (0, 0)) (fun k => ?_) (Ev.now _)
    simp only [spec_PlaceOf.j0]
    rw [if_pos (by trivial)]
  by_cases h0 : a < 0
  · refine ⟨(0, 0), Ev.congr (fun k => ?_) no, ?_⟩
    · unfold spec_PlaceOf.f; rw [if_pos h0]
    · unfold impl_PlaceOf.f impl_between.f; rw [if_neg (by omega)]; rfl
  · by_cases h1 : a > (s.size : Int)
    · refine ⟨(0, 0), Ev.congr (fun k => ?_) no, ?_⟩
      · unfold spec_PlaceOf.f; rw [if_neg h0, decide_eq_true h1]
      · unfold impl_PlaceOf.f impl_between.f; rw [if_pos (by omega), decide_eq_false (by omega)]; rfl
    · obtain ⟨q, rfl⟩ := Int.eq_ofNat_of_zero_le (show 0 ≤ a by omega)
      have hq : q ≤ s.size := by omega
      have hl := lineN_le s q
      have hf := fromN_le s q
      have hloop := place_loop hs q hq q 0 (by omega)
      refine ⟨(((lineN s q : Nat) : Int) + 1, (q : Int) - (fromN s q : Nat) + 1), ?_, ?_⟩
      rotate_left
      · unfold impl_PlaceOf.f impl_between.f
        rw [if_pos (by omega), decide_eq_true (by omega), Option.bind_some, if_pos (rfl : true = true), if_pos (by omega), if_pos (by omega)]
        have hz : (s.extract 0 q).size = q := by rw [size_extract]; omega
        have e1 : strings_Count.f (s.extract 0 q) (⟨#[10]⟩ : ByteArray) = some ((lineN s q : Nat) : Int) := by
          unfold strings_Count.f
          rw [dif_pos (by rfl)]
          have : Lib.countByte (s.extract 0 q).data.toList ((⟨#[10]⟩ : ByteArray)[0]) = lineN s q := by
            rw [extract_data, List.drop_zero]
            exact count_line s q hq
          rw [this]
        have e2 : strings_LastIndex.f (s.extract 0 q) (⟨#[10]⟩ : ByteArray) = some ((fromN s q : Int) - 1) := by
          unfold strings_LastIndex.f
          rw [dif_pos (by rfl), if_pos (by omega)]
          have : Lib.lastIndexByte (s.extract 0 q) ((((⟨#[10]⟩ : ByteArray)[0]).toNat : Nat) : Int) = (fromN s q : Int) - 1 := by
            unfold Lib.lastIndexByte
            rw [hz]
            exact last_from s q hq q (Nat.le_refl _)
          rw [this]
        simp only [Int.toNat_natCast]
        rw [e1, e2, Option.bind_some, Option.bind_some, wrap_id (n := ((lineN s q : Nat) : Int) + 1) (by omega) (by omega), wrap_id (n := (q : Int) - ((fromN s q : Int) - 1)) (by omega) (by omega), show (q : Int) - ((fromN s q : Int) - 1) = (q : Int) - (fromN s q : Nat) + 1 by omega]
      · refine Ev.congr (f := fun k => spec_PlaceOf.j0 k s (q : Int) false) (fun k => ?_) (Ev.step (fun k => ?_) hloop)
        · unfold spec_PlaceOf.f; rw [if_neg h0, decide_eq_false h1]
        · simp only [spec_PlaceOf.j0]
          rw [if_neg (by simp)]
          rfl
end Go.Proofs.Ytejjmidhkalfeaa.PFnExactPlaceOf
