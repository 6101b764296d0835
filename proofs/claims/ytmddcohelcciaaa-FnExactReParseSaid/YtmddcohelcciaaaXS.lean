/- Small words of this session for contracts off the shelf. -/
import Derived.Test.YtmddcohelcciaaaWMore
import Derived.Sort.Grow
namespace Go.Proofs.YtmddcohelcciaaaW.PrintWords.XS
open Go Go.RowKit
theorem one_byte (b : ByteArray) (h : b.size = 1) : ∃ c, b = ⟨#[c]⟩ := by
  obtain ⟨⟨l⟩⟩ := b
  match l, h with
  | [c], _ => exact ⟨c, rfl⟩
theorem below_grow (w : World) (k : Nat) (os : Array Obj) : Below w.heap.size w (Sort.grow (w.drewN k) os) :=
  ⟨rfl, rfl, rfl, by show w.heap.size ≤ ((w.drewN k).heap ++ os).size; rw [Array.size_append]; show w.heap.size ≤ w.heap.size + os.size; omega, fun _ hj => Sort.heap_grow_old (w.drewN k) os hj⟩
theorem strs_plain {w : World} {A : Option Addr} {xs : List ByteArray} (h : Kd.C Kd.string w A xs.length xs) (h0 : xs ≠ []) :
    ∃ bk o, A = some ⟨bk, o, none⟩ ∧ bk < w.heap.size ∧ ∀ (j : Nat) x, xs[j]? = some x → w.cell? ⟨bk, o + j, none⟩ = some (.string x) := by
  obtain ⟨h1, h2, h3⟩ := Kd.reads_of_C (d := ByteArray.empty) h
  have hp : 0 < xs.length := List.length_pos_iff.2 h0
  obtain ⟨⟨bk, o, spot⟩, rfl, hc⟩ := h3 hp
  have hspot : spot = none := by simpa [Addr.add] using World.cell?_spot (hc 0 hp)
  subst hspot
  refine ⟨bk, o, rfl, World.block_lt_of_cell? w _ (hc 0 hp), fun j x hj => ?_⟩
  obtain ⟨hl, e⟩ := List.getElem?_eq_some_iff.1 hj
  have := hc j hl
  rw [List.getD_eq_getElem?_getD, hj] at this
  have ea : (⟨bk, o, none⟩ : Addr).add j = ⟨bk, o + j, none⟩ := by
    unfold Addr.add
    simp
  rw [ea] at this
  exact this
end Go.Proofs.YtmddcohelcciaaaW.PrintWords.XS
