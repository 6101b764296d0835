/- Texts with blanks between them: plain words. -/
import Derived.Test.YtegllcjlngdijaaXBa
import Derived.Lib.Join
namespace Go.Proofs.Ytegllcjlngdijaa.XL
set_option linter.unusedVariables false
set_option linter.unusedSimpArgs false
open Go.RowKit Go.Proofs.YtegllcjlngdijaaW.PrintWords Go.Proofs.YtegllcjlngdijaaW.PrintLast
theorem rd_str (L : List ByteArray) (i : Nat) (h : i < L.length) : rdOf ByteArray.empty L (i : Int) = L[i] := by
  unfold rdOf
  rw [Int.toNat_natCast, List.getD_eq_getElem?_getD, List.getElem?_eq_getElem h]
  rfl
def sumS (L : List ByteArray) : Nat := (L.map ByteArray.size).sum
theorem sumS_drop (L : List ByteArray) (i : Nat) (h : i < L.length) : sumS (L.drop i) = L[i].size + sumS (L.drop (i + 1)) := by
  unfold sumS
  rw [List.drop_eq_getElem_cons h, List.map_cons, List.sum_cons]
def tailJ (L : List ByteArray) : List UInt8 := L.flatMap fun x => 32 :: x.data.toList
theorem tailJ_cons (x : ByteArray) (l : List ByteArray) : tailJ (x :: l) = 32 :: x.data.toList ++ tailJ l := by unfold tailJ; rw [List.flatMap_cons]
theorem tailJ_drop (L : List ByteArray) (i : Nat) (h : i < L.length) : tailJ (L.drop i) = 32 :: L[i].data.toList ++ tailJ (L.drop (i + 1)) := by
  rw [List.drop_eq_getElem_cons h, tailJ_cons]
theorem data_size (x : ByteArray) : x.data.toList.length = x.size := by rw [Array.length_toList]; rfl
theorem tailJ_length (L : List ByteArray) : (tailJ L).length = L.length + sumS L := by
  induction L with
  | nil => rfl
  | cons x l ih =>
    rw [tailJ_cons, List.length_append, ih, List.length_cons, data_size]
    simp [sumS]
    omega
def joinV (L : List ByteArray) : List UInt8 := Lib.join (L.map (·.data.toList)) [32]
theorem join_cons (x : ByteArray) (l : List ByteArray) : joinV (x :: l) = x.data.toList ++ tailJ l := by
  unfold joinV
  rw [List.map_cons, Lib.join_cons]
  congr 1
  unfold Lib.joinTail tailJ
  rw [List.map_map, List.flatMap_def]
  rfl
theorem join_length (L : List ByteArray) : (joinV L).length ≤ L.length + sumS L := by
  cases L with
  | nil => simp [joinV, Lib.join]
  | cons x l =>
    rw [join_cons, List.length_append, tailJ_length, data_size]
    simp [sumS]
    omega
theorem join_less (L : List ByteArray) (h : L ≠ []) : (joinV L).length + 1 = L.length + sumS L := by
  cases L with
  | nil => exact absurd rfl h
  | cons x l =>
    rw [join_cons, List.length_append, tailJ_length, data_size]
    simp [sumS]
    omega
theorem ba_append_of (a : List UInt8) (x : ByteArray) : ba a ++ x = ba (a ++ x.data.toList) := by
  conv => lhs; rw [← ba_of x]
  rw [ba_append]
theorem sumS_take (L : List ByteArray) : ∀ n, sumS (L.take n) ≤ sumS L := by
  induction L with
  | nil => intro n; simp [sumS]
  | cons x l ih =>
    intro n
    cases n with
    | zero => simp [sumS]
    | succ n => have := ih n; simp [sumS] at this ⊢; omega
theorem bt_getD (s : ByteArray) (k : Nat) : bt s (k : Int) = (bytesOf s).getD k 0 := by
  rw [← rd_bytesOf]
  unfold rd
  rw [Int.toNat_natCast]
theorem bytesOf_data (s : ByteArray) : bytesOf s = s.data.toList.map fun b => (b.toNat : Int) := rfl
/-- A text that lies in another from place i on: its bytes. -/
theorem bt_in {s x : ByteArray} {i : Nat} {T : List UInt8} (h : s.data.toList.drop i = x.data.toList ++ T) (j : Nat) (hj : j < x.size) : bt s ((i + j : Nat) : Int) = bt x (j : Int) := by
  rw [bt_getD, bt_getD, bytesOf_data, bytesOf_data]
  have e : ∀ (l : List UInt8), (l.map fun b => (b.toNat : Int)).getD (i + j) 0 = ((l.drop i).map fun b => (b.toNat : Int)).getD j 0 := fun l => by
    simp [List.getD_eq_getElem?_getD, List.getElem?_drop]
  rw [e, h, List.map_append, List.getD_eq_getElem?_getD, List.getD_eq_getElem?_getD, List.getElem?_append_left (by rw [List.length_map, data_size]; exact hj)]
theorem extract_in {s x : ByteArray} {i : Nat} {T : List UInt8} (h : s.data.toList.drop i = x.data.toList ++ T) : s.extract i (i + x.size) = x := by
  apply ba_ext
  rw [extract_data, List.drop_take, h, show i + x.size - i = x.size by omega, ← data_size x, List.take_left']
  rfl
end Go.Proofs.Ytegllcjlngdijaa.XL
