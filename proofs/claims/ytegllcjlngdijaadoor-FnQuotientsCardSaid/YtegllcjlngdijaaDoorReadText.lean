/- What is read out of a text that is made of parts; a decimal's own text reads as the decimal. -/
import Derived.Test.YtegllcjlngdijaaDoorXBa
namespace Go.Proofs.YtegllcjlngdijaaDoor.XL
set_option linter.unusedVariables false
set_option linter.unusedSimpArgs false
open Go.RowKit Go.Proofs.YtegllcjlngdijaaDoorW.PrintWords Go.Proofs.YtegllcjlngdijaaDoorW.PrintLast
open Go.Lib (decDigits)

def ub (c : UInt8) : Int := (c.toNat : Int)
def numsOf (l : List UInt8) : List Int := l.map ub
theorem bt_at (A B : List UInt8) (c : UInt8) : bt (ba (A ++ c :: B)) ((A.length : Nat) : Int) = ub c := by
  have h : A.length < (ba (A ++ c :: B)).size := by rw [ba_size]; simp
  rw [← bt_bytes _ _ h]
  simp [bytesOf, ba_data, ub]
def stops (p : Int → Bool) : List UInt8 → Prop
  | [] => True
  | c :: _ => p (ub c) = false
theorem scan_mid (p : Int → Bool) : ∀ (B A C : List UInt8), (∀ c ∈ B, p (ub c) = true) → stops p C → scan p (ba (A ++ (B ++ C))) A.length = B.length := by
  intro B
  induction B with
  | nil =>
    intro A C _ hC
    cases C with
    | nil => rw [scan_end p _ _ (by rw [ba_size]; simp)]; rfl
    | cons c C => exact scan_no (by rw [List.nil_append, bt_at]; exact hC)
  | cons b B ih =>
    intro A C hB hC
    have h1 := ih (A ++ [b]) C (fun c hc => hB c (by simp [hc])) hC
    rw [List.cons_append, scan_yes (by rw [ba_size]; simp) (by rw [bt_at]; exact hB b (by simp))]
    rw [List.append_assoc, List.length_append] at h1
    have h1 : scan p (ba (A ++ b :: (B ++ C))) (A.length + 1) = B.length := h1
    rw [h1]
    rfl
theorem cut_mid : ∀ (B A C : List UInt8), cut (ba (A ++ (B ++ C))) A.length B.length = numsOf B := by
  intro B
  induction B with
  | nil => intro A C; rfl
  | cons b B ih =>
    intro A C
    have h1 := ih (A ++ [b]) C
    rw [List.append_assoc, List.length_append] at h1
    have h1 : cut (ba (A ++ b :: (B ++ C))) (A.length + 1) B.length = numsOf B := h1
    rw [List.cons_append, List.length_cons, cut_succ, bt_at, h1]
    rfl

/-- Behind the sign: digits, a point with digits or nothing, and what stops it. -/
theorem tail_parts (A D P T : List UInt8) (pt : Bool) (sg : Bool) (hD : ∀ c ∈ D, isD (ub c) = true) (hD0 : D ≠ []) (hP : ∀ c ∈ P, isD (ub c) = true) (hpt : pt = false → P = []) (hT : stops isD T) (hT2 : stops (fun c => c == 46) T) :
    tail (ba (A ++ (D ++ ((if pt = true then 46 :: P else []) ++ T)))) A.length sg = (made sg (val 0 (numsOf D)) (fr 100000 (numsOf P)), ((A.length + D.length + (if pt = true then 46 :: P else []).length : Nat) : Int)) := by
  have hdl : D.length ≠ 0 := fun h => hD0 (List.eq_nil_of_length_eq_zero h)
  cases pt with
  | true =>
    rw [if_pos rfl]
    have e1 := scan_mid isD D A (46 :: P ++ T) hD (by show isD (ub 46) = false; decide)
    have e2 := cut_mid D A (46 :: P ++ T)
    have e3 := scan_mid isD P (A ++ D ++ [46]) T hP hT
    have e4 := cut_mid P (A ++ D ++ [46]) T
    have e5 := bt_at (A ++ D) (P ++ T) 46
    have ea : A ++ D ++ [46] ++ (P ++ T) = A ++ (D ++ (46 :: P ++ T)) := by simp
    have eb : A ++ D ++ 46 :: (P ++ T) = A ++ (D ++ (46 :: P ++ T)) := by simp
    rw [ea] at e3 e4
    rw [eb] at e5
    simp only [List.length_append, List.length_cons, List.length_nil, Nat.zero_add] at e3 e4 e5
    unfold tail
    rw [e1, e2, e3, e4, if_pos ⟨by rw [ba_size]; simp, by rw [e5]; rfl⟩, if_neg (by omega)]
    rw [List.length_cons, show A.length + D.length + 1 + P.length = A.length + D.length + (P.length + 1) by omega]
  | false =>
    obtain rfl := hpt rfl
    rw [if_neg (by simp), List.nil_append]
    have e1 := scan_mid isD D A T hD hT
    have e2 := cut_mid D A T
    unfold tail
    rw [e1, e2, if_neg, if_neg hdl]
    · rfl
    · rintro ⟨h1, h2⟩
      cases T with
      | nil => rw [ba_size] at h1; simp at h1
      | cons c T =>
        have e5 := bt_at (A ++ D) T c
        rw [List.append_assoc, List.length_append] at e5
        rw [e5] at h2
        have : (ub c == 46) = false := hT2
        rw [h2] at this
        exact absurd this (by decide)
theorem digit_no {c : Int} (h : isD c = true) : isS c = false ∧ c ≠ 43 ∧ c ≠ 45 := by
  have hb : 48 ≤ c ∧ c ≤ 57 := by simpa [isD] using h
  refine ⟨?_, by omega, by omega⟩
  unfold isS
  rw [beq_eq_false_iff_ne.mpr (by omega), beq_eq_false_iff_ne.mpr (by omega), beq_eq_false_iff_ne.mpr (by omega)]
  rfl
theorem read_parts (W D P T : List UInt8) (pt : Bool) (sg : Bool) (hW : ∀ c ∈ W, isS (ub c) = true) (hD : ∀ c ∈ D, isD (ub c) = true) (hD0 : D ≠ []) (hP : ∀ c ∈ P, isD (ub c) = true) (hpt : pt = false → P = []) (hT : stops isD T) (hT2 : stops (fun c => c == 46) T) :
    readV (ba (W ++ ((if sg = true then [45] else []) ++ (D ++ ((if pt = true then 46 :: P else []) ++ T))))) = (made sg (val 0 (numsOf D)) (fr 100000 (numsOf P)), ((W.length + (if sg = true then [45] else ([] : List UInt8)).length + D.length + (if pt = true then 46 :: P else []).length : Nat) : Int)) := by
  obtain ⟨d, D', rfl⟩ : ∃ d D', D = d :: D' := by
    cases D with
    | nil => exact absurd rfl hD0
    | cons d D' => exact ⟨d, D', rfl⟩
  have hd := digit_no (hD d (by simp))
  cases sg with
  | true =>
    rw [if_pos rfl]
    have e1 := scan_mid isS W [] ([45] ++ (d :: D' ++ ((if pt = true then 46 :: P else []) ++ T))) hW (by show isS (ub 45) = false; decide)
    have e2 := bt_at W (d :: D' ++ ((if pt = true then 46 :: P else []) ++ T)) 45
    have e3 := tail_parts (W ++ [45]) (d :: D') P T pt true hD hD0 hP hpt hT hT2
    rw [List.nil_append] at e1
    simp only [List.length_nil] at e1
    rw [List.append_assoc, List.length_append] at e3
    have e2 : bt (ba (W ++ ([45] ++ (d :: D' ++ ((if pt = true then 46 :: P else []) ++ T))))) ((W.length : Nat) : Int) = 45 := e2
    unfold readV
    rw [e1, e2, if_pos ⟨by rw [ba_size]; simp, .inr rfl⟩]
    exact e3
  | false =>
    rw [if_neg (by simp), List.nil_append]
    have e1 := scan_mid isS W [] (d :: D' ++ ((if pt = true then 46 :: P else []) ++ T)) hW hd.1
    have e2 := bt_at W (D' ++ ((if pt = true then 46 :: P else []) ++ T)) d
    have e3 := tail_parts W (d :: D') P T pt false hD hD0 hP hpt hT hT2
    rw [List.nil_append] at e1
    simp only [List.length_nil] at e1
    have e2 : bt (ba (W ++ (d :: D' ++ ((if pt = true then 46 :: P else []) ++ T)))) ((W.length : Nat) : Int) = ub d := e2
    unfold readV
    rw [e1, e2, if_neg (by rintro ⟨_, h | h⟩; exact hd.2.1 h; exact hd.2.2 h)]
    exact e3

theorem ub_digit {a : Nat} (h : a < 10) : ub (UInt8.ofNat (48 + a)) = 48 + (a : Int) := by
  unfold ub
  simp
  omega
theorem dec_digits : ∀ (u : Nat), ∀ c ∈ decDigits u, isD (ub c) = true := by
  intro u
  induction u using Nat.strongRecOn with
  | ind u ih =>
    have one : ∀ a, a < 10 → isD (ub (UInt8.ofNat (48 + a))) = true := fun a h => by
      rw [ub_digit h]
      unfold isD
      rw [decide_eq_true (by omega), decide_eq_true (by omega)]
      rfl
    by_cases h : u < 10
    · rw [dec_small h]
      intro c hc
      rw [List.mem_singleton] at hc
      subst hc
      exact one u h
    · rw [dec_big (by omega)]
      intro c hc
      rcases List.mem_append.1 hc with h1 | h1
      · exact ih (u / 10) (by omega) c h1
      · rw [List.mem_singleton] at h1
        subst h1
        exact one _ (by omega)
theorem dec_some (u : Nat) : decDigits u ≠ [] := by
  by_cases h : u < 10
  · rw [dec_small h]; simp
  · rw [dec_big (by omega)]; simp
theorem dec_val : ∀ (u : Nat), val 0 (numsOf (decDigits u)) = (u : Int) := by
  intro u
  induction u using Nat.strongRecOn with
  | ind u ih =>
    by_cases h : u < 10
    · rw [dec_small h]
      show 0 * 10 + (ub (UInt8.ofNat (48 + u)) - 48) = _
      rw [ub_digit h]
      omega
    · rw [dec_big (by omega)]
      have := ih (u / 10) (by omega)
      unfold numsOf at this ⊢
      rw [List.map_append, val_append, this]
      show ((u / 10 : Nat) : Int) * 10 + (ub (UInt8.ofNat (48 + u % 10)) - 48) = _
      rw [ub_digit (by omega)]
      omega
theorem frc_digits : ∀ (w r : Nat), r < 10 ^ w → ∀ c ∈ frc w r, isD (ub c) = true := by
  intro w
  induction w with
  | zero => intro r _ c hc; simp [frc] at hc
  | succ w ih =>
    intro r h c hc
    have hp : 0 < 10 ^ w := Nat.pow_pos (by omega)
    have hd : r / 10 ^ w < 10 := by rw [Nat.div_lt_iff_lt_mul hp]; rw [Nat.pow_succ] at h; omega
    simp only [frc] at hc
    split at hc
    · cases hc
    · rcases List.mem_cons.1 hc with rfl | h1
      · rw [ub_digit hd]
        generalize r / 10 ^ w = q at hd
        unfold isD
        rw [decide_eq_true (by omega), decide_eq_true (by omega)]
        rfl
      · exact ih _ (Nat.mod_lt _ hp) c h1
theorem frc_val : ∀ (w r : Nat), r < 10 ^ w → fr ((10 ^ w / 10 : Nat) : Int) (numsOf (frc w r)) = (r : Int) := by
  intro w
  induction w with
  | zero =>
    intro r h
    have e : r = 0 := by simpa using h
    subst e
    rfl
  | succ w ih =>
    intro r h
    have hp : 0 < 10 ^ w := Nat.pow_pos (by omega)
    have hd : r / 10 ^ w < 10 := by rw [Nat.div_lt_iff_lt_mul hp]; rw [Nat.pow_succ] at h; omega
    have eu : 10 ^ (w + 1) / 10 = 10 ^ w := by rw [Nat.pow_succ]; exact Nat.mul_div_cancel _ (by omega)
    have hm := Nat.div_add_mod r (10 ^ w)
    rw [eu]
    simp only [frc]
    by_cases h0 : r = 0
    · subst h0; rw [if_pos rfl]; rfl
    · rw [if_neg h0]
      have h1 := ih (r % 10 ^ w) (Nat.mod_lt _ hp)
      show (ub (UInt8.ofNat (48 + r / 10 ^ w)) - 48) * ((10 ^ w : Nat) : Int) + fr (((10 ^ w : Nat) : Int) / 10) (numsOf (frc w (r % 10 ^ w))) = _
      rw [show (((10 ^ w : Nat) : Int) / 10) = ((10 ^ w / 10 : Nat) : Int) from rfl, h1, ub_digit hd]
      rw [show (48 + ((r / 10 ^ w : Nat) : Int) - 48) = ((r / 10 ^ w : Nat) : Int) by omega, ← Int.natCast_mul, ← Int.natCast_add]
      congr 1
      rw [Nat.mul_comm]
      exact hm
/-- A decimal's text, between whitespace and what stops a number, reads as the decimal. -/
theorem read_text (a : Int) (h : -9000000000000 ≤ a ∧ a ≤ 9000000000000) (W T : List UInt8) (hW : ∀ c ∈ W, isS (ub c) = true) (hT : stops isD T) (hT2 : stops (fun c => c == 46) T) :
    readV (ba (W ++ (decText a ++ T))) = (a, ((W.length + (decText a).length : Nat) : Int)) := by
  have hp := read_parts W (decDigits (a.natAbs / 1000000)) (frc 6 (a.natAbs % 1000000)) T (!decide (a.natAbs % 1000000 = 0)) (decide (a < 0)) hW (dec_digits _) (dec_some _) (frc_digits 6 _ (by omega)) (by
    intro z
    have z : a.natAbs % 1000000 = 0 := by simpa using z
    rw [z]
    exact frc_zero 6) hT hT2
  have hv := frc_val 6 (a.natAbs % 1000000) (by omega)
  have hv : fr 100000 (numsOf (frc 6 (a.natAbs % 1000000))) = ((a.natAbs % 1000000 : Nat) : Int) := hv
  rw [dec_val, hv] at hp
  have e1 : (if decide (a < 0) = true then [45] else ([] : List UInt8)) = (if a < 0 then [45] else []) := by
    by_cases g : a < 0
    · rw [if_pos g, if_pos (decide_eq_true g)]
    · rw [if_neg g, if_neg (by simp [g])]
  have e2 : (if (!decide (a.natAbs % 1000000 = 0)) = true then 46 :: frc 6 (a.natAbs % 1000000) else []) = (if a.natAbs % 1000000 = 0 then [] else 46 :: frc 6 (a.natAbs % 1000000)) := by
    by_cases g : a.natAbs % 1000000 = 0
    · rw [if_pos g, if_neg (by simp [g])]
    · rw [if_neg g, if_pos (by simp [g])]
  rw [e1, e2] at hp
  unfold decText
  rw [List.append_assoc, List.append_assoc, hp]
  refine Prod.ext ?_ ?_
  · show made (decide (a < 0)) ((a.natAbs / 1000000 : Nat) : Int) ((a.natAbs % 1000000 : Nat) : Int) = a
    unfold made
    by_cases g : a < 0
    · rw [if_pos (decide_eq_true g)]; omega
    · rw [if_neg (by simp [g])]; omega
  · simp only [List.length_append]
    congr 1
    omega
theorem text_length (a : Int) (h : -9000000000000 ≤ a ∧ a ≤ 9000000000000) : 0 < (decText a).length ∧ (decText a).length ≤ 9000010 := by
  have h1 := dec_length (a.natAbs / 1000000)
  have h2 := frc_length 6 (a.natAbs % 1000000)
  have h3 := List.length_pos_iff.2 (dec_some (a.natAbs / 1000000))
  unfold decText
  rw [List.length_append, List.length_append]
  constructor
  · omega
  · have e1 : (if a < 0 then [45] else ([] : List UInt8)).length ≤ 1 := by split <;> simp
    have e2 : (if a.natAbs % 1000000 = 0 then [] else 46 :: frc 6 (a.natAbs % 1000000)).length ≤ 7 := by split <;> simp <;> omega
    omega
end Go.Proofs.YtegllcjlngdijaaDoor.XL
