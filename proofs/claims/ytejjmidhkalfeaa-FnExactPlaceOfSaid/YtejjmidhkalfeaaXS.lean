/- Small words of this session for contracts off the shelf. -/
import Derived.Test.YtejjmidhkalfeaaWMore
namespace Go.Proofs.YtejjmidhkalfeaaW.PrintWords.XS
theorem one_byte (b : ByteArray) (h : b.size = 1) : ∃ c, b = ⟨#[c]⟩ := by
  obtain ⟨⟨l⟩⟩ := b
  match l, h with
  | [c], _ => exact ⟨c, rfl⟩
end Go.Proofs.YtejjmidhkalfeaaW.PrintWords.XS
