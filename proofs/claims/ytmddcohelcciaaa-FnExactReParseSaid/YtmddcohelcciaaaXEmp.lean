/- An empty text, as the walk asks for it. -/
import Derived.Test.YtmddcohelcciaaaWMore
namespace Go.Proofs.YtmddcohelcciaaaW.PrintWords
theorem xne_nil (l : List UInt8) : (l != []) = !l.isEmpty := by cases l <;> rfl
theorem xeq_nil (l : List UInt8) : (l == []) = l.isEmpty := by cases l <;> rfl
end Go.Proofs.YtmddcohelcciaaaW.PrintWords
