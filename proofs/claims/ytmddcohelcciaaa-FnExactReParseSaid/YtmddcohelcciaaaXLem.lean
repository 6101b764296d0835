/- Plain lemmas of this session on numbers, texts and lists, beside the printed words. -/
import Derived.Test.YtmddcohelcciaaaWMore
namespace Go.Proofs.Ytmddcohelcciaaa.XL
set_option linter.unusedVariables false
set_option linter.unusedSimpArgs false
open Go.RowKit Go.Proofs.YtmddcohelcciaaaW.PrintWords Go.Proofs.YtmddcohelcciaaaW.PrintLast

theorem wrap_id {n : Int} (h0 : -9223372036854775808 ≤ n) (h1 : n ≤ 9223372036854775807) : wrap64 n = n := by
  unfold wrap64
  omega

theorem wrap_nat (a b : Nat) (h : a + b ≤ 9223372036854775807) : wrap64 ((a : Int) + (b : Int)) = ((a + b : Nat) : Int) := by
  rw [wrap_id (by omega) (by omega), Int.natCast_add]
theorem wrap_nat1 (a : Nat) (h : a + 1 ≤ 9223372036854775807) : wrap64 ((a : Int) + 1) = ((a + 1 : Nat) : Int) := wrap_nat a 1 h
theorem wrap_1nat (a : Nat) (h : 1 + a ≤ 9223372036854775807) : wrap64 (1 + (a : Int)) = ((1 + a : Nat) : Int) := wrap_nat 1 a h

theorem wf_i64 {n : Int} (h : (Lit.int .i64 n).wf = true) : -9223372036854775808 ≤ n ∧ n ≤ 9223372036854775807 := by
  simp only [Lit.wf, Bool.and_eq_true, decide_eq_true_eq] at h
  have e1 : IntKind.i64.min = -9223372036854775808 := by decide
  have e2 : IntKind.i64.max = 9223372036854775807 := by decide
  rw [e1, e2] at h
  exact h

theorem bytes_len (s : ByteArray) : (bytesOf s).length = s.size := by simp [bytesOf]

theorem bt_bytes (s : ByteArray) (i : Nat) (h : i < s.size) : (bytesOf s)[i]'(by rw [bytes_len]; exact h) = bt s i := by
  simp [bytesOf, bt, h]
  rfl

theorem bt_lt (s : ByteArray) (i : Int) : bt s i < 256 := by have := bt_range s i; omega
theorem bt_ge (s : ByteArray) (i : Int) : 0 ≤ bt s i := (bt_range s i).1

theorem ba_ext {a b : ByteArray} (h : a.data.toList = b.data.toList) : a = b := by
  cases a; cases b
  simp only at h
  rw [ByteArray.mk.injEq]
  exact Array.toList_inj.mp h

theorem byte_back (l : List UInt8) : (l.map fun b => (b.toNat : Int)).map (fun n => UInt8.ofNat n.toNat) = l := by
  induction l with
  | nil => rfl
  | cons x l ih => simp [ih]

theorem extract_data (s : ByteArray) (l m : Nat) : (s.extract l m).data.toList = (s.data.toList.take m).drop l := by
  rw [ByteArray.data_extract, Array.toList_extract, List.extract_eq_take_drop, List.drop_take]

theorem strOf_cut (s : ByteArray) (l m : Nat) : strOfNums (((bytesOf s).take m).drop l) = s.extract l m := by
  apply ba_ext
  rw [strOfNums_data, extract_data]
  unfold bytesOf
  rw [← List.map_take, ← List.map_drop, byte_back]

theorem strOf_bytes (s : ByteArray) : strOfNums (bytesOf s) = s := by
  apply ba_ext
  rw [strOfNums_data]
  unfold bytesOf
  rw [byte_back]

theorem strOf_append (xs ys : List Int) : strOfNums (xs ++ ys) = strOfNums xs ++ strOfNums ys := by
  apply ba_ext
  simp [strOfNums_data]

theorem size_extract (s : ByteArray) (l m : Nat) : (s.extract l m).size = min m s.size - l := by
  simp [ByteArray.size_extract]

theorem bt_extract (s : ByteArray) (l m : Nat) (i : Int) (h0 : 0 ≤ i) (h1 : i < (min m s.size : Nat) - (l : Int)) : bt (s.extract l m) i = bt s (l + i) := by
  obtain ⟨j, rfl⟩ := Int.eq_ofNat_of_zero_le h0
  have hj : j < (s.extract l m).size := by rw [size_extract]; omega
  have hj2 : l + j < s.size := by omega
  have e : ((l : Int) + (j : Int)).toNat = l + j := by omega
  unfold bt
  simp only [Int.toNat_natCast, e, hj, hj2, dite_true]
  rw [ByteArray.getElem_extract]

theorem toList_data (s : ByteArray) : s.toList = s.data.toList := ByteArray.toList_eq s

theorem ev_use {α β γ : Type} {g : Nat → Option α} {f : Nat → Option β} {F : Nat → Option γ} {a : α} {b : β} {r : γ} (hg : Ev g a) (hf : Ev f b) (h : ∀ k, g k = some a → f k = some b → F (k + 1) = some r) : Ev F r := by
  obtain ⟨K1, h1⟩ := hg
  obtain ⟨K2, h2⟩ := hf
  refine ⟨max K1 K2 + 1, fun k hk => ?_⟩
  obtain ⟨k, rfl⟩ : ∃ m, k = m + 1 := ⟨k - 1, by omega⟩
  exact h k (h1 k (by omega)) (h2 k (by omega))

theorem ev_use0 {α β γ : Type} {g : Nat → Option α} {f : Nat → Option β} {F : Nat → Option γ} {a : α} {b : β} {r : γ} (hg : Ev g a) (hf : Ev f b) (h : ∀ k, g k = some a → f k = some b → F k = some r) : Ev F r := by
  obtain ⟨K1, h1⟩ := hg
  obtain ⟨K2, h2⟩ := hf
  exact ⟨max K1 K2, fun k hk => h k (h1 k (by omega)) (h2 k (by omega))⟩

theorem ev_use1 {α γ : Type} {g : Nat → Option α} {F : Nat → Option γ} {a : α} {r : γ} (hg : Ev g a) (h : ∀ k, g k = some a → F k = some r) : Ev F r := by
  obtain ⟨K1, h1⟩ := hg
  exact ⟨K1, fun k hk => h k (h1 k hk)⟩

/-- An append of one more byte of a cut. -/
theorem cut_snoc (B : List Int) (l i : Nat) (h : i < B.length) (hl : l ≤ i) : ((B.take (i + 1)).drop l) = ((B.take i).drop l) ++ [B[i]] := by
  rw [List.take_succ_eq_append_getElem h, List.drop_append_of_le_length (by simp; omega)]

def isD (c : Int) : Bool := decide (48 ≤ c) && decide (c ≤ 57)
def isS (c : Int) : Bool := c == 32 || (c == 9 || c == 10)

/-- How many bytes from place i on are of a kind. -/
def scanN (p : Int → Bool) (s : ByteArray) : Nat → Nat → Nat
  | 0, _ => 0
  | d + 1, i => if p (bt s i) then scanN p s d (i + 1) + 1 else 0
def scan (p : Int → Bool) (s : ByteArray) (i : Nat) : Nat := scanN p s (s.size - i) i
theorem scan_end (p : Int → Bool) (s : ByteArray) (i : Nat) (h : s.size ≤ i) : scan p s i = 0 := by
  unfold scan
  rw [Nat.sub_eq_zero_of_le h]
  rfl
theorem scan_yes {p : Int → Bool} {s : ByteArray} {i : Nat} (h : i < s.size) (hp : p (bt s i) = true) : scan p s i = scan p s (i + 1) + 1 := by
  unfold scan
  rw [show s.size - i = (s.size - (i + 1)) + 1 by omega]
  simp [scanN, hp]
theorem scan_no {p : Int → Bool} {s : ByteArray} {i : Nat} (hp : p (bt s i) = false) : scan p s i = 0 := by
  unfold scan
  cases s.size - i with
  | zero => rfl
  | succ d => simp [scanN, hp]
theorem scan_le (p : Int → Bool) (s : ByteArray) : ∀ (d i : Nat), i + d = s.size → i + scan p s i ≤ s.size := by
  intro d
  induction d with
  | zero => intro i h; rw [scan_end p s i (by omega)]; omega
  | succ d ih =>
    intro i h
    cases hp : p (bt s i) with
    | true => rw [scan_yes (by omega) hp]; have := ih (i + 1) (by omega); omega
    | false => rw [scan_no hp]; omega
theorem scan_le' (p : Int → Bool) (s : ByteArray) (i : Nat) (h : i ≤ s.size) : i + scan p s i ≤ s.size := scan_le p s (s.size - i) i (by omega)
theorem scan_zero {p : Int → Bool} {s : ByteArray} {i : Nat} (h : i < s.size) (h0 : scan p s i = 0) : p (bt s i) = false := by
  cases hp : p (bt s i) with
  | false => rfl
  | true => rw [scan_yes h hp] at h0; omega
theorem scan_pos {p : Int → Bool} {s : ByteArray} {i : Nat} (hp : 0 < scan p s i) : i < s.size ∧ p (bt s i) = true := by
  have h1 : i < s.size := by
    rcases Nat.lt_or_ge i s.size with h | h
    · exact h
    · rw [scan_end p s i h] at hp; omega
  refine ⟨h1, ?_⟩
  cases h : p (bt s i) with
  | true => rfl
  | false => rw [scan_no h] at hp; omega

/-- The bytes from i on, w of them. -/
def cut (s : ByteArray) (i w : Nat) : List Int := (List.range w).map fun j => bt s ((i + j : Nat) : Int)
theorem cut_zero (s : ByteArray) (i : Nat) : cut s i 0 = [] := rfl
theorem cut_succ (s : ByteArray) (i w : Nat) : cut s i (w + 1) = bt s i :: cut s (i + 1) w := by
  unfold cut
  rw [List.range_succ_eq_map, List.map_cons, List.map_map]
  congr 1
  apply List.map_congr_left
  intro j _
  simp only [Function.comp]
  congr 1
  omega
theorem cut_length (s : ByteArray) (i w : Nat) : (cut s i w).length = w := by simp [cut]
theorem cut_digits (s : ByteArray) : ∀ (w i : Nat), w ≤ scan isD s i → ∀ c ∈ cut s i w, 48 ≤ c ∧ c ≤ 57 := by
  intro w
  induction w with
  | zero => intro i _ c hc; simp [cut_zero] at hc
  | succ w ih =>
    intro i h c hc
    obtain ⟨hi, hp⟩ := scan_pos (p := isD) (s := s) (i := i) (by omega)
    rw [scan_yes hi hp] at h
    rw [cut_succ] at hc
    rcases List.mem_cons.1 hc with rfl | hc
    · simpa [isD] using hp
    · exact ih (i + 1) (by omega) c hc
theorem bytesOf_extract (s : ByteArray) (i w : Nat) (h : i + w ≤ s.size) : bytesOf (s.extract i (i + w)) = cut s i w := by
  apply List.ext_getElem
  · rw [bytes_len, size_extract, cut_length]; omega
  · intro j h1 h2
    rw [bytes_len] at h1
    rw [bt_bytes _ _ h1]
    rw [size_extract] at h1
    rw [bt_extract s i (i + w) j (by omega) (by omega)]
    simp [cut]

/-- What digits say. -/
def val : Int → List Int → Int
  | V, [] => V
  | V, c :: l => val (V * 10 + (c - 48)) l
theorem val_append (V : Int) (l m : List Int) : val V (l ++ m) = val (val V l) m := by
  induction l generalizing V with
  | nil => rfl
  | cons c l ih => simp [val, ih]
theorem val_ge {l : List Int} (hl : ∀ c ∈ l, 48 ≤ c ∧ c ≤ 57) : ∀ V : Int, 0 ≤ V → 0 ≤ val V l := by
  induction l with
  | nil => intro V h; exact h
  | cons c l ih =>
    intro V h
    have := hl c (by simp)
    exact ih (fun d hd => hl d (by simp [hd])) _ (by omega)
/-- What digits behind the point say, the first at unit u. -/
def fr : Int → List Int → Int
  | _, [] => 0
  | u, c :: l => (c - 48) * u + fr (u / 10) l
theorem fr_zero (l : List Int) : fr 0 l = 0 := by
  induction l with
  | nil => rfl
  | cons c l ih => simp [fr, ih]
theorem fr_six (l : List Int) : fr 100000 l = val 0 ((l ++ [48, 48, 48, 48, 48, 48]).take 6) := by
  match l with
  | [] => simp [fr, val]
  | [a] => simp [fr, val]; omega
  | [a, b] => simp [fr, val]; omega
  | [a, b, c] => simp [fr, val]; omega
  | [a, b, c, d] => simp [fr, val]; omega
  | [a, b, c, d, e] => simp [fr, val]; omega
  | a :: b :: c :: d :: e :: f :: l => simp [fr, val, fr_zero]; omega
theorem val_six (l : List Int) (hl : l.length = 6) (V : Int) : val V l = V * 1000000 + val 0 l := by
  match l, hl with
  | [a, b, c, d, e, f], _ => simp [val]; omega
theorem six_length (l : List Int) : ((l ++ [48, 48, 48, 48, 48, 48]).take 6).length = 6 := by simp
theorem six_digits {l : List Int} (hl : ∀ c ∈ l, 48 ≤ c ∧ c ≤ 57) : ∀ c ∈ (l ++ [48, 48, 48, 48, 48, 48]).take 6, 48 ≤ c ∧ c ≤ 57 := by
  intro c hc
  have := List.mem_of_mem_take hc
  rcases List.mem_append.1 this with h | h
  · exact hl c h
  · simp at h; omega
theorem six_bounds {l : List Int} (hd : ∀ c ∈ l, 48 ≤ c ∧ c ≤ 57) (hl : l.length = 6) : 0 ≤ val 0 l ∧ val 0 l ≤ 999999 := by
  match l, hl with
  | [a, b, c, d, e, f], _ =>
    have h1 := hd a (by simp)
    have h2 := hd b (by simp)
    have h3 := hd c (by simp)
    have h4 := hd d (by simp)
    have h5 := hd e (by simp)
    have h6 := hd f (by simp)
    simp [val]
    omega

/-- What is read: the number out of V whole units and F parts, by the sign. -/
def made (sg : Bool) (V F : Int) : Int := if sg = true then -(min (V * 1000000 + F) 9000000000000) else min (V * 1000000 + F) 9000000000000
theorem made_bounds (sg : Bool) {V F : Int} (hV : 0 ≤ V) (hF : 0 ≤ F) : -9000000000000 ≤ made sg V F ∧ made sg V F ≤ 9000000000000 := by
  unfold made
  split <;> omega

/-- What stands behind the sign, from place q on: the answer. -/
def tail (s : ByteArray) (q : Nat) (sg : Bool) : Int × Int :=
  if q + scan isD s q < s.size ∧ bt s ((q + scan isD s q : Nat) : Int) = 46 then
    if scan isD s q + scan isD s (q + scan isD s q + 1) = 0 then (0, 0)
    else (made sg (val 0 (cut s q (scan isD s q))) (fr 100000 (cut s (q + scan isD s q + 1) (scan isD s (q + scan isD s q + 1)))), ((q + scan isD s q + 1 + scan isD s (q + scan isD s q + 1) : Nat) : Int))
  else if scan isD s q = 0 then (0, 0) else (made sg (val 0 (cut s q (scan isD s q))) 0, ((q + scan isD s q : Nat) : Int))

/-- Behind whitespace: the sign, and what follows. -/
def readV (s : ByteArray) : Int × Int :=
  if scan isS s 0 < s.size ∧ (bt s ((scan isS s 0 : Nat) : Int) = 43 ∨ bt s ((scan isS s 0 : Nat) : Int) = 45) then tail s (scan isS s 0 + 1) (bt s ((scan isS s 0 : Nat) : Int) == 45) else tail s (scan isS s 0) false

theorem tail_bounds (s : ByteArray) (q : Nat) (sg : Bool) (hq : q ≤ s.size) : -9000000000000 ≤ (tail s q sg).1 ∧ (tail s q sg).1 ≤ 9000000000000 ∧ 0 ≤ (tail s q sg).2 ∧ (tail s q sg).2 ≤ s.size := by
  have hw := scan_le' isD s q hq
  have hV := val_ge (cut_digits s (scan isD s q) q (Nat.le_refl _)) 0 (by omega)
  unfold tail
  by_cases hp : q + scan isD s q < s.size ∧ bt s ((q + scan isD s q : Nat) : Int) = 46
  · simp only [if_pos hp]
    have hm := scan_le' isD s (q + scan isD s q + 1) (by omega)
    have hF := six_bounds (six_digits (cut_digits s (scan isD s (q + scan isD s q + 1)) (q + scan isD s q + 1) (Nat.le_refl _))) (six_length _)
    rw [← fr_six] at hF
    split
    · simp only; omega
    · have := made_bounds sg hV hF.1
      simp only; omega
  · simp only [if_neg hp]
    split
    · simp only; omega
    · have := made_bounds sg hV (Int.le_refl 0)
      simp only; omega

theorem read_bounds (s : ByteArray) : -9000000000000 ≤ (readV s).1 ∧ (readV s).1 ≤ 9000000000000 ∧ 0 ≤ (readV s).2 ∧ (readV s).2 ≤ s.size := by
  have hp := scan_le' isS s 0 (by omega)
  rw [Nat.zero_add] at hp
  unfold readV
  by_cases h : scan isS s 0 < s.size ∧ (bt s ((scan isS s 0 : Nat) : Int) = 43 ∨ bt s ((scan isS s 0 : Nat) : Int) = 45)
  · simp only [if_pos h]
    exact tail_bounds s _ _ (by omega)
  · simp only [if_neg h]
    exact tail_bounds s _ _ hp

end Go.Proofs.Ytmddcohelcciaaa.XL
