/-
  No cell of these rows narrows 'for every input' (looked for: loops, veiled, ifaces, maps, wideKeys, modest, calm, conditions, laid).
  DERIVED. THE GIVEN ROWS OF THIS SEAT. 11 by the template 'for every input the law returns true; each argument reads behind the call as it read before'; 0 by the template 'total and deterministic' (their statements: YtabbpbilkojkhaaTotals.lean).
  GIVEN WITH THE SEED: the statements are not yours to turn. If you find one false, say at which input.
  Laid BY PROGRAM, IN A SANDBOX (cutbox-rows.mjs): the forced cells as the released guide's own fill.sh prints them over the translation cd3571a2608343b2… (all of the seat's roots in one cut). By AI agents, Wed Nov 11 2026. No macro, syntax, notation, axiom, sorry.
-/
import Derived.Test.YtabbpbilkojkhaaChecked
import GoSem.Claim
import GoSem.ClaimJoined
import GoSem.ClaimMapViews
import Derived.JoinedTies
import Derived.KernelRfl
namespace Go.Proofs.Ytabbpbilkojkhaa
/- THE CELL 'sum', in the pinned program and in every row, IS THE sha256 OF THE DUMP (.gsa) THAT YtabbpbilkojkhaaProg.lean LOADS. Nothing in Lean hashes anything: it is a label: what it is worth is what the hold of that sum in a sandbox is worth. -/
noncomputable def Try.pinned : Pinned := { name := "ytabbpbilkojkhaa", sum := "cd3571a2608343b269521cae962aea3c8c091560dd23758a34e8f011f1e58040", checked := Try.checked }
namespace Rows
def none {H : Type} : Left H := { results := [], args := [] }

/-- 'laws.FnExactDecAdd': WHATEVER THE INPUT: true; the input reads as it did. -/
def fnExactDecAddSpec : ChangeSpec := { name := "fnExactDecAdd", fn := fun _ => fun
  | [d1, d2] => { results := [.lit (.bool true)], args := [d1, d2] }
  | _ => none }
def fnExactDecAddRow : OpenClaim := { program := "ytabbpbilkojkhaa", sum := "cd3571a2608343b269521cae962aea3c8c091560dd23758a34e8f011f1e58040", func := "loop.example/g00700/laws.FnExactDecAdd", spec := "fnExactDecAdd", apart := false }
def FnExactDecAddSaid : Prop := fnExactDecAddRow.holds Try.pinned (OpenSpec.ofChange fnExactDecAddSpec)

/-- ITS FALSE NEIGHBOUR: 'it returns false'. Refute it at one input. -/
def fnExactDecAddWrong : ChangeSpec := { name := "fnExactDecAdd", fn := fun _ => fun
  | [d1, d2] => { results := [.lit (.bool false)], args := [d1, d2] }
  | _ => none }
def FnExactDecAddWrongFalsely : Prop := fnExactDecAddRow.holds Try.pinned (OpenSpec.ofChange fnExactDecAddWrong)

/-- 'laws.FnExactDecDiv': WHATEVER THE INPUT: true; the input reads as it did. -/
def fnExactDecDivSpec : ChangeSpec := { name := "fnExactDecDiv", fn := fun _ => fun
  | [d1, d2] => { results := [.lit (.bool true)], args := [d1, d2] }
  | _ => none }
def fnExactDecDivRow : OpenClaim := { program := "ytabbpbilkojkhaa", sum := "cd3571a2608343b269521cae962aea3c8c091560dd23758a34e8f011f1e58040", func := "loop.example/g00700/laws.FnExactDecDiv", spec := "fnExactDecDiv", apart := false }
def FnExactDecDivSaid : Prop := fnExactDecDivRow.holds Try.pinned (OpenSpec.ofChange fnExactDecDivSpec)

/-- ITS FALSE NEIGHBOUR: 'it returns false'. Refute it at one input. -/
def fnExactDecDivWrong : ChangeSpec := { name := "fnExactDecDiv", fn := fun _ => fun
  | [d1, d2] => { results := [.lit (.bool false)], args := [d1, d2] }
  | _ => none }
def FnExactDecDivWrongFalsely : Prop := fnExactDecDivRow.holds Try.pinned (OpenSpec.ofChange fnExactDecDivWrong)

/-- 'laws.FnExactDecSub': WHATEVER THE INPUT: true; the input reads as it did. -/
def fnExactDecSubSpec : ChangeSpec := { name := "fnExactDecSub", fn := fun _ => fun
  | [d1, d2] => { results := [.lit (.bool true)], args := [d1, d2] }
  | _ => none }
def fnExactDecSubRow : OpenClaim := { program := "ytabbpbilkojkhaa", sum := "cd3571a2608343b269521cae962aea3c8c091560dd23758a34e8f011f1e58040", func := "loop.example/g00700/laws.FnExactDecSub", spec := "fnExactDecSub", apart := false }
def FnExactDecSubSaid : Prop := fnExactDecSubRow.holds Try.pinned (OpenSpec.ofChange fnExactDecSubSpec)

/-- ITS FALSE NEIGHBOUR: 'it returns false'. Refute it at one input. -/
def fnExactDecSubWrong : ChangeSpec := { name := "fnExactDecSub", fn := fun _ => fun
  | [d1, d2] => { results := [.lit (.bool false)], args := [d1, d2] }
  | _ => none }
def FnExactDecSubWrongFalsely : Prop := fnExactDecSubRow.holds Try.pinned (OpenSpec.ofChange fnExactDecSubWrong)

/-- 'laws.FnExactNameOk': WHATEVER THE INPUT: true; the input reads as it did. -/
def fnExactNameOkSpec : ChangeSpec := { name := "fnExactNameOk", fn := fun _ => fun
  | [d] => { results := [.lit (.bool true)], args := [d] }
  | _ => none }
def fnExactNameOkRow : OpenClaim := { program := "ytabbpbilkojkhaa", sum := "cd3571a2608343b269521cae962aea3c8c091560dd23758a34e8f011f1e58040", func := "loop.example/g00700/laws.FnExactNameOk", spec := "fnExactNameOk", unfollowed := true, recurses := true, apart := false }
def FnExactNameOkSaid : Prop := fnExactNameOkRow.holds Try.pinned (OpenSpec.ofChange fnExactNameOkSpec)

/-- ITS FALSE NEIGHBOUR: 'it returns false'. Refute it at one input. -/
def fnExactNameOkWrong : ChangeSpec := { name := "fnExactNameOk", fn := fun _ => fun
  | [d] => { results := [.lit (.bool false)], args := [d] }
  | _ => none }
def FnExactNameOkWrongFalsely : Prop := fnExactNameOkRow.holds Try.pinned (OpenSpec.ofChange fnExactNameOkWrong)

/-- 'laws.FnExactReadDec': WHATEVER THE INPUT: true; the input reads as it did. -/
def fnExactReadDecSpec : ChangeSpec := { name := "fnExactReadDec", fn := fun _ => fun
  | [d] => { results := [.lit (.bool true)], args := [d] }
  | _ => none }
def fnExactReadDecRow : OpenClaim := { program := "ytabbpbilkojkhaa", sum := "cd3571a2608343b269521cae962aea3c8c091560dd23758a34e8f011f1e58040", func := "loop.example/g00700/laws.FnExactReadDec", spec := "fnExactReadDec", unfollowed := true, recurses := true, apart := false }
def FnExactReadDecSaid : Prop := fnExactReadDecRow.holds Try.pinned (OpenSpec.ofChange fnExactReadDecSpec)

/-- ITS FALSE NEIGHBOUR: 'it returns false'. Refute it at one input. -/
def fnExactReadDecWrong : ChangeSpec := { name := "fnExactReadDec", fn := fun _ => fun
  | [d] => { results := [.lit (.bool false)], args := [d] }
  | _ => none }
def FnExactReadDecWrongFalsely : Prop := fnExactReadDecRow.holds Try.pinned (OpenSpec.ofChange fnExactReadDecWrong)

/-- 'laws.FnExactLooksNum': WHATEVER THE INPUT: true; the input reads as it did. -/
def fnExactLooksNumSpec : ChangeSpec := { name := "fnExactLooksNum", fn := fun _ => fun
  | [d] => { results := [.lit (.bool true)], args := [d] }
  | _ => none }
def fnExactLooksNumRow : OpenClaim := { program := "ytabbpbilkojkhaa", sum := "cd3571a2608343b269521cae962aea3c8c091560dd23758a34e8f011f1e58040", func := "loop.example/g00700/laws.FnExactLooksNum", spec := "fnExactLooksNum", unfollowed := true, recurses := true, apart := false }
def FnExactLooksNumSaid : Prop := fnExactLooksNumRow.holds Try.pinned (OpenSpec.ofChange fnExactLooksNumSpec)

/-- ITS FALSE NEIGHBOUR: 'it returns false'. Refute it at one input. -/
def fnExactLooksNumWrong : ChangeSpec := { name := "fnExactLooksNum", fn := fun _ => fun
  | [d] => { results := [.lit (.bool false)], args := [d] }
  | _ => none }
def FnExactLooksNumWrongFalsely : Prop := fnExactLooksNumRow.holds Try.pinned (OpenSpec.ofChange fnExactLooksNumWrong)

/-- 'laws.FnExactIndexOf': WHATEVER THE INPUT: true; the input reads as it did. -/
def fnExactIndexOfSpec : ChangeSpec := { name := "fnExactIndexOf", fn := fun _ => fun
  | [d1, d2] => { results := [.lit (.bool true)], args := [d1, d2] }
  | _ => none }
def fnExactIndexOfRow : OpenClaim := { program := "ytabbpbilkojkhaa", sum := "cd3571a2608343b269521cae962aea3c8c091560dd23758a34e8f011f1e58040", func := "loop.example/g00700/laws.FnExactIndexOf", spec := "fnExactIndexOf", inPlace := ["internal/bytealg.IndexByteString", "internal/bytealg.IndexString"], named := ["internal/bytealg.MaxLen"], apart := false }
def FnExactIndexOfSaid : Prop := fnExactIndexOfRow.holds Try.pinned (OpenSpec.ofChange fnExactIndexOfSpec)

/-- ITS FALSE NEIGHBOUR: 'it returns false'. Refute it at one input. -/
def fnExactIndexOfWrong : ChangeSpec := { name := "fnExactIndexOf", fn := fun _ => fun
  | [d1, d2] => { results := [.lit (.bool false)], args := [d1, d2] }
  | _ => none }
def FnExactIndexOfWrongFalsely : Prop := fnExactIndexOfRow.holds Try.pinned (OpenSpec.ofChange fnExactIndexOfWrong)

/-- 'laws.FnExactFields': WHATEVER THE INPUT: true; the input reads as it did. -/
def fnExactFieldsSpec : ChangeSpec := { name := "fnExactFields", fn := fun _ => fun
  | [d] => { results := [.lit (.bool true)], args := [d] }
  | _ => none }
def fnExactFieldsRow : OpenClaim := { program := "ytabbpbilkojkhaa", sum := "cd3571a2608343b269521cae962aea3c8c091560dd23758a34e8f011f1e58040", func := "loop.example/g00700/laws.FnExactFields", spec := "fnExactFields", unfollowed := true, recurses := true, apart := false }
def FnExactFieldsSaid : Prop := fnExactFieldsRow.holds Try.pinned (OpenSpec.ofChange fnExactFieldsSpec)

/-- ITS FALSE NEIGHBOUR: 'it returns false'. Refute it at one input. -/
def fnExactFieldsWrong : ChangeSpec := { name := "fnExactFields", fn := fun _ => fun
  | [d] => { results := [.lit (.bool false)], args := [d] }
  | _ => none }
def FnExactFieldsWrongFalsely : Prop := fnExactFieldsRow.holds Try.pinned (OpenSpec.ofChange fnExactFieldsWrong)

/-- 'laws.FnExactFieldCell': WHATEVER THE INPUT: true; the input reads as it did. -/
def fnExactFieldCellSpec : ChangeSpec := { name := "fnExactFieldCell", fn := fun _ => fun
  | [d] => { results := [.lit (.bool true)], args := [d] }
  | _ => none }
def fnExactFieldCellRow : OpenClaim := { program := "ytabbpbilkojkhaa", sum := "cd3571a2608343b269521cae962aea3c8c091560dd23758a34e8f011f1e58040", func := "loop.example/g00700/laws.FnExactFieldCell", spec := "fnExactFieldCell", unfollowed := true, recurses := true, apart := false }
def FnExactFieldCellSaid : Prop := fnExactFieldCellRow.holds Try.pinned (OpenSpec.ofChange fnExactFieldCellSpec)

/-- ITS FALSE NEIGHBOUR: 'it returns false'. Refute it at one input. -/
def fnExactFieldCellWrong : ChangeSpec := { name := "fnExactFieldCell", fn := fun _ => fun
  | [d] => { results := [.lit (.bool false)], args := [d] }
  | _ => none }
def FnExactFieldCellWrongFalsely : Prop := fnExactFieldCellRow.holds Try.pinned (OpenSpec.ofChange fnExactFieldCellWrong)

/-- 'laws.FnExactDecMul': WHATEVER THE INPUT: true; the input reads as it did. -/
def fnExactDecMulSpec : ChangeSpec := { name := "fnExactDecMul", fn := fun _ => fun
  | [d1, d2] => { results := [.lit (.bool true)], args := [d1, d2] }
  | _ => none }
def fnExactDecMulRow : OpenClaim := { program := "ytabbpbilkojkhaa", sum := "cd3571a2608343b269521cae962aea3c8c091560dd23758a34e8f011f1e58040", func := "loop.example/g00700/laws.FnExactDecMul", spec := "fnExactDecMul", named := ["math/bits.divideError", "math/bits.overflowError"], apart := false }
def FnExactDecMulSaid : Prop := fnExactDecMulRow.holds Try.pinned (OpenSpec.ofChange fnExactDecMulSpec)

/-- ITS FALSE NEIGHBOUR: 'it returns false'. Refute it at one input. -/
def fnExactDecMulWrong : ChangeSpec := { name := "fnExactDecMul", fn := fun _ => fun
  | [d1, d2] => { results := [.lit (.bool false)], args := [d1, d2] }
  | _ => none }
def FnExactDecMulWrongFalsely : Prop := fnExactDecMulRow.holds Try.pinned (OpenSpec.ofChange fnExactDecMulWrong)

/-- 'laws.FnExactJoinFields': WHATEVER THE INPUT: true; the input reads as it did. -/
def fnExactJoinFieldsSpec : ChangeSpec := { name := "fnExactJoinFields", fn := fun _ => fun
  | [d] => { results := [.lit (.bool true)], args := [d] }
  | _ => none }
def fnExactJoinFieldsRow : OpenClaim := { program := "ytabbpbilkojkhaa", sum := "cd3571a2608343b269521cae962aea3c8c091560dd23758a34e8f011f1e58040", func := "loop.example/g00700/laws.FnExactJoinFields", spec := "fnExactJoinFields", inPlace := ["internal/abi.NoEscape", "internal/bytealg.MakeNoZero"], apart := false }
def FnExactJoinFieldsSaid : Prop := fnExactJoinFieldsRow.holds Try.pinned (OpenSpec.ofChange fnExactJoinFieldsSpec)

/-- ITS FALSE NEIGHBOUR: 'it returns false'. Refute it at one input. -/
def fnExactJoinFieldsWrong : ChangeSpec := { name := "fnExactJoinFields", fn := fun _ => fun
  | [d] => { results := [.lit (.bool false)], args := [d] }
  | _ => none }
def FnExactJoinFieldsWrongFalsely : Prop := fnExactJoinFieldsRow.holds Try.pinned (OpenSpec.ofChange fnExactJoinFieldsWrong)

/- THE SECOND FORM. 'bulk': how many values and letters a reading holds, each counted each time it is reached (what is shared counts as often as it is met; a slice's spare places count too). A statement '..UptoSaid' is the law's where the arguments, and the package variables that the reading takes, are together of bulk at most 1048576: NARROWER than '..Said'. Prove '..Said' where nothing that the law and all that it calls make is longer than what came in: it says more and counts as full. Else prove '..UptoSaid'. A law counts once. -/
mutual
def uptoBulk {H : Type} : DataW H → Nat
  | .lit (.string bytes) => bytes.length + 1
  | .lit _ => 1
  | .nil => 1
  | .ptr d => uptoBulk d + 1
  | .slice elems spare => uptoBulkAll elems + uptoBulkAll spare + 1
  | .agg parts => uptoBulkAll parts + 1
  | .iface _ d => uptoBulk d + 1
  | .map entries => uptoBulkEntries entries + 1
  | .held _ => 1
def uptoBulkAll {H : Type} : List (DataW H) → Nat
  | [] => 0
  | d :: r => uptoBulk d + uptoBulkAll r
def uptoBulkEntries {H : Type} : List (Lit × DataW H) → Nat
  | [] => 0
  | x :: r => uptoBulkEntry x + uptoBulkEntries r
def uptoBulkEntry {H : Type} : Lit × DataW H → Nat
  | (.string bytes, d) => bytes.length + uptoBulk d + 1
  | (_, d) => uptoBulk d + 1
 end
def uptoSmall : (H : Type) → List (DataW H) → Bool := fun _ ds => decide (uptoBulkAll ds ≤ 1048576)
def OpenSpec.upto (s : _root_.Go.ChangeSpec) : _root_.Go.OpenSpec := { _root_.Go.OpenSpec.ofChange s with cond := some uptoSmall }

/-- 'laws.FnExactDecAdd', WHERE WHAT IT READS IS OF BULK AT MOST 1048576: true; the input reads as it did. -/
def fnExactDecAddUptoRow : OpenClaim := { program := "ytabbpbilkojkhaa", sum := "cd3571a2608343b269521cae962aea3c8c091560dd23758a34e8f011f1e58040", func := "loop.example/g00700/laws.FnExactDecAdd", spec := "fnExactDecAdd", apart := false, narrowed := true }
def FnExactDecAddUptoSaid : Prop := fnExactDecAddUptoRow.holds Try.pinned (OpenSpec.upto fnExactDecAddSpec)

/-- 'laws.FnExactDecDiv', WHERE WHAT IT READS IS OF BULK AT MOST 1048576: true; the input reads as it did. -/
def fnExactDecDivUptoRow : OpenClaim := { program := "ytabbpbilkojkhaa", sum := "cd3571a2608343b269521cae962aea3c8c091560dd23758a34e8f011f1e58040", func := "loop.example/g00700/laws.FnExactDecDiv", spec := "fnExactDecDiv", apart := false, narrowed := true }
def FnExactDecDivUptoSaid : Prop := fnExactDecDivUptoRow.holds Try.pinned (OpenSpec.upto fnExactDecDivSpec)

/-- 'laws.FnExactDecSub', WHERE WHAT IT READS IS OF BULK AT MOST 1048576: true; the input reads as it did. -/
def fnExactDecSubUptoRow : OpenClaim := { program := "ytabbpbilkojkhaa", sum := "cd3571a2608343b269521cae962aea3c8c091560dd23758a34e8f011f1e58040", func := "loop.example/g00700/laws.FnExactDecSub", spec := "fnExactDecSub", apart := false, narrowed := true }
def FnExactDecSubUptoSaid : Prop := fnExactDecSubUptoRow.holds Try.pinned (OpenSpec.upto fnExactDecSubSpec)

/-- 'laws.FnExactNameOk', WHERE WHAT IT READS IS OF BULK AT MOST 1048576: true; the input reads as it did. -/
def fnExactNameOkUptoRow : OpenClaim := { program := "ytabbpbilkojkhaa", sum := "cd3571a2608343b269521cae962aea3c8c091560dd23758a34e8f011f1e58040", func := "loop.example/g00700/laws.FnExactNameOk", spec := "fnExactNameOk", unfollowed := true, recurses := true, apart := false, narrowed := true }
def FnExactNameOkUptoSaid : Prop := fnExactNameOkUptoRow.holds Try.pinned (OpenSpec.upto fnExactNameOkSpec)

/-- 'laws.FnExactReadDec', WHERE WHAT IT READS IS OF BULK AT MOST 1048576: true; the input reads as it did. -/
def fnExactReadDecUptoRow : OpenClaim := { program := "ytabbpbilkojkhaa", sum := "cd3571a2608343b269521cae962aea3c8c091560dd23758a34e8f011f1e58040", func := "loop.example/g00700/laws.FnExactReadDec", spec := "fnExactReadDec", unfollowed := true, recurses := true, apart := false, narrowed := true }
def FnExactReadDecUptoSaid : Prop := fnExactReadDecUptoRow.holds Try.pinned (OpenSpec.upto fnExactReadDecSpec)

/-- 'laws.FnExactLooksNum', WHERE WHAT IT READS IS OF BULK AT MOST 1048576: true; the input reads as it did. -/
def fnExactLooksNumUptoRow : OpenClaim := { program := "ytabbpbilkojkhaa", sum := "cd3571a2608343b269521cae962aea3c8c091560dd23758a34e8f011f1e58040", func := "loop.example/g00700/laws.FnExactLooksNum", spec := "fnExactLooksNum", unfollowed := true, recurses := true, apart := false, narrowed := true }
def FnExactLooksNumUptoSaid : Prop := fnExactLooksNumUptoRow.holds Try.pinned (OpenSpec.upto fnExactLooksNumSpec)

/-- 'laws.FnExactIndexOf', WHERE WHAT IT READS IS OF BULK AT MOST 1048576: true; the input reads as it did. -/
def fnExactIndexOfUptoRow : OpenClaim := { program := "ytabbpbilkojkhaa", sum := "cd3571a2608343b269521cae962aea3c8c091560dd23758a34e8f011f1e58040", func := "loop.example/g00700/laws.FnExactIndexOf", spec := "fnExactIndexOf", inPlace := ["internal/bytealg.IndexByteString", "internal/bytealg.IndexString"], named := ["internal/bytealg.MaxLen"], apart := false, narrowed := true }
def FnExactIndexOfUptoSaid : Prop := fnExactIndexOfUptoRow.holds Try.pinned (OpenSpec.upto fnExactIndexOfSpec)

/-- 'laws.FnExactFields', WHERE WHAT IT READS IS OF BULK AT MOST 1048576: true; the input reads as it did. -/
def fnExactFieldsUptoRow : OpenClaim := { program := "ytabbpbilkojkhaa", sum := "cd3571a2608343b269521cae962aea3c8c091560dd23758a34e8f011f1e58040", func := "loop.example/g00700/laws.FnExactFields", spec := "fnExactFields", unfollowed := true, recurses := true, apart := false, narrowed := true }
def FnExactFieldsUptoSaid : Prop := fnExactFieldsUptoRow.holds Try.pinned (OpenSpec.upto fnExactFieldsSpec)

/-- 'laws.FnExactFieldCell', WHERE WHAT IT READS IS OF BULK AT MOST 1048576: true; the input reads as it did. -/
def fnExactFieldCellUptoRow : OpenClaim := { program := "ytabbpbilkojkhaa", sum := "cd3571a2608343b269521cae962aea3c8c091560dd23758a34e8f011f1e58040", func := "loop.example/g00700/laws.FnExactFieldCell", spec := "fnExactFieldCell", unfollowed := true, recurses := true, apart := false, narrowed := true }
def FnExactFieldCellUptoSaid : Prop := fnExactFieldCellUptoRow.holds Try.pinned (OpenSpec.upto fnExactFieldCellSpec)

/-- 'laws.FnExactDecMul', WHERE WHAT IT READS IS OF BULK AT MOST 1048576: true; the input reads as it did. -/
def fnExactDecMulUptoRow : OpenClaim := { program := "ytabbpbilkojkhaa", sum := "cd3571a2608343b269521cae962aea3c8c091560dd23758a34e8f011f1e58040", func := "loop.example/g00700/laws.FnExactDecMul", spec := "fnExactDecMul", named := ["math/bits.divideError", "math/bits.overflowError"], apart := false, narrowed := true }
def FnExactDecMulUptoSaid : Prop := fnExactDecMulUptoRow.holds Try.pinned (OpenSpec.upto fnExactDecMulSpec)

/-- 'laws.FnExactJoinFields', WHERE WHAT IT READS IS OF BULK AT MOST 1048576: true; the input reads as it did. -/
def fnExactJoinFieldsUptoRow : OpenClaim := { program := "ytabbpbilkojkhaa", sum := "cd3571a2608343b269521cae962aea3c8c091560dd23758a34e8f011f1e58040", func := "loop.example/g00700/laws.FnExactJoinFields", spec := "fnExactJoinFields", inPlace := ["internal/abi.NoEscape", "internal/bytealg.MakeNoZero"], apart := false, narrowed := true }
def FnExactJoinFieldsUptoSaid : Prop := fnExactJoinFieldsUptoRow.holds Try.pinned (OpenSpec.upto fnExactJoinFieldsSpec)

end Rows
end Go.Proofs.Ytabbpbilkojkhaa
