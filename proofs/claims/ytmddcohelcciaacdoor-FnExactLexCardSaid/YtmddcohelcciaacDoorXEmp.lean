/- An empty text, as the walk asks for it. -/
import Derived.Test.YtmddcohelcciaacDoorWMore
namespace Go.Proofs.YtmddcohelcciaacDoorW.PrintWords
theorem xne_nil (l : List UInt8) : (l != []) = !l.isEmpty := by cases l <;> rfl
theorem xeq_nil (l : List UInt8) : (l == []) = l.isEmpty := by cases l <;> rfl
end Go.Proofs.YtmddcohelcciaacDoorW.PrintWords
