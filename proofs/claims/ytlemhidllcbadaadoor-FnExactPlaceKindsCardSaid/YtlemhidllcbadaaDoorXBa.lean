/- Texts as lists of bytes: small words of this session. -/
import Derived.Test.YtlemhidllcbadaaDoorXLem
import Derived.Lib.ItoaNum
import Derived.Lib.TrimByte
namespace Go.Proofs.YtlemhidllcbadaaDoor.XL
set_option linter.unusedVariables false
set_option linter.unusedSimpArgs false
open Go.RowKit Go.Proofs.YtlemhidllcbadaaDoorW.PrintWords Go.Proofs.YtlemhidllcbadaaDoorW.PrintLast

def ba (l : List UInt8) : ByteArray := ⟨l.toArray⟩
theorem ba_data (l : List UInt8) : (ba l).data.toList = l := by simp [ba]
theorem ba_size (l : List UInt8) : (ba l).size = l.length := by simp [ba, ByteArray.size]
theorem ba_append (l m : List UInt8) : ba l ++ ba m = ba (l ++ m) := ba_ext (by simp [ba])
theorem ba_of (s : ByteArray) : ba s.data.toList = s := ba_ext (ba_data _)
theorem ba_lit (l : List UInt8) : (⟨l.toArray⟩ : ByteArray) = ba l := rfl
theorem ba_drop (l : List UInt8) (i : Nat) : (ba l).extract i (ba l).size = ba (l.drop i) := ba_ext (by rw [extract_data, ba_data, ba_data, ba_size, List.take_of_length_le (Nat.le_refl _)])
theorem strOf_one (c : Int) : strOfNums [c] = ba [UInt8.ofNat c.toNat] := ba_ext (by rw [strOfNums_data, ba_data]; rfl)

theorem scan_stop (p : Int → Bool) (s : ByteArray) : ∀ (i : Nat), i + scan p s i < s.size → p (bt s ((i + scan p s i : Nat) : Int)) = false := by
  have key : ∀ (d i : Nat), i + d = s.size → i + scan p s i < s.size → p (bt s ((i + scan p s i : Nat) : Int)) = false := by
    intro d
    induction d with
    | zero => intro i h h2; omega
    | succ d ih =>
      intro i h h2
      cases hp : p (bt s (i : Int)) with
      | false => rw [scan_no hp]; exact hp
      | true =>
        rw [scan_yes (by omega) hp] at h2 ⊢
        have := ih (i + 1) (by omega) (by omega)
        rwa [show i + 1 + scan p s (i + 1) = i + (scan p s (i + 1) + 1) by omega] at this
  intro i h
  exact key (s.size - i) i (by omega) h

/-! ### decimal digits -/
open Go.Lib (decDigits)
theorem dec_small {u : Nat} (h : u < 10) : decDigits u = [UInt8.ofNat (48 + u)] := by rw [decDigits, dif_pos h]
theorem dec_big {u : Nat} (h : 10 ≤ u) : decDigits u = decDigits (u / 10) ++ [UInt8.ofNat (48 + u % 10)] := by rw [decDigits, dif_neg (by omega)]
theorem dec_length : ∀ (u : Nat), (decDigits u).length ≤ u + 1 := by
  intro u
  induction u using Nat.strongRecOn with
  | ind u ih =>
    by_cases h : u < 10
    · rw [dec_small h]; simp
    · rw [dec_big (by omega), List.length_append]
      have := ih (u / 10) (by omega)
      simp
      omega

/-- The w digits of r. -/
def pad : Nat → Nat → List UInt8
  | 0, _ => []
  | w + 1, r => UInt8.ofNat (48 + r / 10 ^ w) :: pad w (r % 10 ^ w)
/-- The digits of r out of w, without zeros at the end. -/
def frc : Nat → Nat → List UInt8
  | 0, _ => []
  | w + 1, r => if r = 0 then [] else UInt8.ofNat (48 + r / 10 ^ w) :: frc w (r % 10 ^ w)
theorem pad_length : ∀ w r, (pad w r).length = w := by
  intro w
  induction w with
  | zero => intro r; rfl
  | succ w ih => intro r; simp [pad, ih]
theorem frc_zero : ∀ w, frc w 0 = [] := by intro w; cases w <;> simp [frc]
theorem frc_length : ∀ w r, (frc w r).length ≤ w := by
  intro w
  induction w with
  | zero => intro r; simp [frc]
  | succ w ih =>
    intro r
    simp only [frc]
    split
    · simp
    · have := ih (r % 10 ^ w); simp; omega
theorem frc_nil : ∀ {w r}, r < 10 ^ w → frc w r = [] → r = 0 := by
  intro w r h e
  cases w with
  | zero => simpa using h
  | succ w =>
    simp only [frc] at e
    split at e
    · assumption
    · cases e
theorem trim_cons (d : UInt8) (l : List UInt8) (c : UInt8) : Lib.trimRightB (d :: l) c = if Lib.trimRightB l c = [] ∧ d = c then [] else d :: Lib.trimRightB l c := by
  unfold Lib.trimRightB
  rw [List.reverse_cons, List.dropWhile_append]
  cases hl : l.reverse.dropWhile (· == c) with
  | nil =>
    by_cases hd : d = c
    · subst hd; simp
    · simp [hd]
  | cons x xs => simp
theorem digit_eight {a : Nat} (h : a < 10) : UInt8.ofNat (48 + a) = 48 ↔ a = 0 := by
  constructor
  · intro e
    have := congrArg UInt8.toNat e
    simp at this
    omega
  · intro e; subst e; rfl
theorem trim_pad : ∀ w r, r < 10 ^ w → Lib.trimRightB (pad w r) 48 = frc w r := by
  intro w
  induction w with
  | zero => intro r _; rfl
  | succ w ih =>
    intro r h
    have hp : 0 < 10 ^ w := Nat.pow_pos (by omega)
    have hr : r % 10 ^ w < 10 ^ w := Nat.mod_lt _ hp
    have hd : r / 10 ^ w < 10 := by rw [Nat.div_lt_iff_lt_mul hp]; rw [Nat.pow_succ] at h; omega
    have hm := Nat.div_add_mod r (10 ^ w)
    simp only [pad, frc]
    rw [trim_cons, ih _ hr]
    by_cases h0 : r = 0
    · subst h0
      rw [if_pos rfl, if_pos ⟨by rw [Nat.zero_mod]; exact frc_zero w, (digit_eight hd).2 (by simp)⟩]
    · rw [if_neg h0, if_neg]
      rintro ⟨h1, h2⟩
      have := frc_nil hr h1
      rw [(digit_eight hd).1 h2, this] at hm
      simp at hm
      omega
theorem dec_million (r : Nat) (h : r < 1000000) : decDigits (1000000 + r) = 49 :: pad 6 r := by
  rw [dec_big (by omega), dec_big (by omega), dec_big (by omega), dec_big (by omega), dec_big (by omega), dec_big (by omega), dec_small (by omega)]
  simp only [pad, List.append_assoc, List.cons_append, List.nil_append]
  have e0 : (1000000 + r) / 10 / 10 / 10 / 10 / 10 / 10 = 1 := by omega
  have e1 : (1000000 + r) / 10 / 10 / 10 / 10 / 10 % 10 = r / 10 ^ 5 := by omega
  have e2 : (1000000 + r) / 10 / 10 / 10 / 10 % 10 = r % 10 ^ 5 / 10 ^ 4 := by omega
  have e3 : (1000000 + r) / 10 / 10 / 10 % 10 = r % 10 ^ 5 % 10 ^ 4 / 10 ^ 3 := by omega
  have e4 : (1000000 + r) / 10 / 10 % 10 = r % 10 ^ 5 % 10 ^ 4 % 10 ^ 3 / 10 ^ 2 := by omega
  have e5 : (1000000 + r) / 10 % 10 = r % 10 ^ 5 % 10 ^ 4 % 10 ^ 3 % 10 ^ 2 / 10 ^ 1 := by omega
  have e6 : (1000000 + r) % 10 = r % 10 ^ 5 % 10 ^ 4 % 10 ^ 3 % 10 ^ 2 % 10 ^ 1 / 10 ^ 0 := by omega
  rw [e0, e1, e2, e3, e4, e5, e6]
  rfl
theorem itoa_nat (u : Nat) : Lib.itoa (u : Int) = decDigits u := by
  unfold Lib.itoa
  rw [if_neg (by omega)]
  simp
/-- The text of a decimal: what DecText answers. -/
def decText (a : Int) : List UInt8 :=
  (if a < 0 then [45] else []) ++ decDigits (a.natAbs / 1000000) ++ (if a.natAbs % 1000000 = 0 then [] else 46 :: frc 6 (a.natAbs % 1000000))
end Go.Proofs.YtlemhidllcbadaaDoor.XL
