/- Small words of this session for contracts off the shelf. -/
import Derived.Test.YtabbpbilkojkhaaWMore
import Derived.Sort.Grow
namespace Go.Proofs.YtabbpbilkojkhaaW.PrintWords.XS
open Go Go.RowKit
theorem one_byte (b : ByteArray) (h : b.size = 1) : ∃ c, b = ⟨#[c]⟩ := by
  obtain ⟨⟨l⟩⟩ := b
  match l, h with
  | [c], _ => exact ⟨c, rfl⟩
theorem below_grow (w : World) (k : Nat) (os : Array Obj) : Below w.heap.size w (Sort.grow (w.drewN k) os) :=
  ⟨rfl, rfl, rfl, by show w.heap.size ≤ ((w.drewN k).heap ++ os).size; rw [Array.size_append]; show w.heap.size ≤ w.heap.size + os.size; omega, fun _ hj => Sort.heap_grow_old (w.drewN k) os hj⟩
end Go.Proofs.YtabbpbilkojkhaaW.PrintWords.XS
