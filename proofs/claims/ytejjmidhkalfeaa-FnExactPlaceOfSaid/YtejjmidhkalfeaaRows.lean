/-
  No cell of these rows narrows 'for every input' (looked for: loops, veiled, ifaces, maps, wideKeys, modest, calm, conditions, laid).
  DERIVED. THE GIVEN ROWS OF THIS SEAT. 10 by the template 'for every input the law returns true; each argument reads behind the call as it read before'; 0 by the template 'total and deterministic' (their statements: YtejjmidhkalfeaaTotals.lean).
  GIVEN WITH THE SEED: the statements are not yours to turn. If you find one false, say at which input.
  Laid BY PROGRAM, IN A SANDBOX (cutbox-rows.mjs): the forced cells as the released guide's own fill.sh prints them over the translation 32a33b6c692def6f… (all of the seat's roots in one cut). By AI agents, Wed Nov 11 2026. No macro, syntax, notation, axiom, sorry.
-/
import Derived.Test.YtejjmidhkalfeaaChecked
import GoSem.Claim
import GoSem.ClaimJoined
import GoSem.ClaimMapViews
import Derived.JoinedTies
import Derived.KernelRfl
namespace Go.Proofs.Ytejjmidhkalfeaa
/- THE CELL 'sum', in the pinned program and in every row, IS THE sha256 OF THE DUMP (.gsa) THAT YtejjmidhkalfeaaProg.lean LOADS. Nothing in Lean hashes anything: it is a label: what it is worth is what the hold of that sum in a sandbox is worth. -/
noncomputable def Try.pinned : Pinned := { name := "ytejjmidhkalfeaa", sum := "32a33b6c692def6fe4253f7bb16a19d80f766c88a32841a49936f0a156c506c3", checked := Try.checked }
namespace Rows
def none {H : Type} : Left H := { results := [], args := [] }

/-- 'laws.FnExactCellOk': WHATEVER THE INPUT: true; the input reads as it did. -/
def fnExactCellOkSpec : ChangeSpec := { name := "fnExactCellOk", fn := fun _ => fun
  | [d] => { results := [.lit (.bool true)], args := [d] }
  | _ => none }
def fnExactCellOkRow : OpenClaim := { program := "ytejjmidhkalfeaa", sum := "32a33b6c692def6fe4253f7bb16a19d80f766c88a32841a49936f0a156c506c3", func := "loop.example/g00700/laws.FnExactCellOk", spec := "fnExactCellOk", unfollowed := true, recurses := true, apart := false }
def FnExactCellOkSaid : Prop := fnExactCellOkRow.holds Try.pinned (OpenSpec.ofChange fnExactCellOkSpec)

/-- ITS FALSE NEIGHBOUR: 'it returns false'. Refute it at one input. -/
def fnExactCellOkWrong : ChangeSpec := { name := "fnExactCellOk", fn := fun _ => fun
  | [d] => { results := [.lit (.bool false)], args := [d] }
  | _ => none }
def FnExactCellOkWrongFalsely : Prop := fnExactCellOkRow.holds Try.pinned (OpenSpec.ofChange fnExactCellOkWrong)

/-- 'laws.FnExactTruth': WHATEVER THE INPUT: true; the input reads as it did. -/
def fnExactTruthSpec : ChangeSpec := { name := "fnExactTruth", fn := fun _ => fun
  | [d] => { results := [.lit (.bool true)], args := [d] }
  | _ => none }
def fnExactTruthRow : OpenClaim := { program := "ytejjmidhkalfeaa", sum := "32a33b6c692def6fe4253f7bb16a19d80f766c88a32841a49936f0a156c506c3", func := "loop.example/g00700/laws.FnExactTruth", spec := "fnExactTruth", unfollowed := true, recurses := true, apart := false }
def FnExactTruthSaid : Prop := fnExactTruthRow.holds Try.pinned (OpenSpec.ofChange fnExactTruthSpec)

/-- ITS FALSE NEIGHBOUR: 'it returns false'. Refute it at one input. -/
def fnExactTruthWrong : ChangeSpec := { name := "fnExactTruth", fn := fun _ => fun
  | [d] => { results := [.lit (.bool false)], args := [d] }
  | _ => none }
def FnExactTruthWrongFalsely : Prop := fnExactTruthRow.holds Try.pinned (OpenSpec.ofChange fnExactTruthWrong)

/-- 'laws.FnExactToNum': WHATEVER THE INPUT: true; the input reads as it did. -/
def fnExactToNumSpec : ChangeSpec := { name := "fnExactToNum", fn := fun _ => fun
  | [d] => { results := [.lit (.bool true)], args := [d] }
  | _ => none }
def fnExactToNumRow : OpenClaim := { program := "ytejjmidhkalfeaa", sum := "32a33b6c692def6fe4253f7bb16a19d80f766c88a32841a49936f0a156c506c3", func := "loop.example/g00700/laws.FnExactToNum", spec := "fnExactToNum", unfollowed := true, recurses := true, apart := false }
def FnExactToNumSaid : Prop := fnExactToNumRow.holds Try.pinned (OpenSpec.ofChange fnExactToNumSpec)

/-- ITS FALSE NEIGHBOUR: 'it returns false'. Refute it at one input. -/
def fnExactToNumWrong : ChangeSpec := { name := "fnExactToNum", fn := fun _ => fun
  | [d] => { results := [.lit (.bool false)], args := [d] }
  | _ => none }
def FnExactToNumWrongFalsely : Prop := fnExactToNumRow.holds Try.pinned (OpenSpec.ofChange fnExactToNumWrong)

/-- 'laws.FnExactPutField': WHATEVER THE INPUT: true; the input reads as it did. -/
def fnExactPutFieldSpec : ChangeSpec := { name := "fnExactPutField", fn := fun _ => fun
  | [d1, d2, d3] => { results := [.lit (.bool true)], args := [d1, d2, d3] }
  | _ => none }
def fnExactPutFieldRow : OpenClaim := { program := "ytejjmidhkalfeaa", sum := "32a33b6c692def6fe4253f7bb16a19d80f766c88a32841a49936f0a156c506c3", func := "loop.example/g00700/laws.FnExactPutField", spec := "fnExactPutField", inPlace := ["internal/abi.NoEscape", "internal/bytealg.MakeNoZero"], apart := false }
def FnExactPutFieldSaid : Prop := fnExactPutFieldRow.holds Try.pinned (OpenSpec.ofChange fnExactPutFieldSpec)

/-- ITS FALSE NEIGHBOUR: 'it returns false'. Refute it at one input. -/
def fnExactPutFieldWrong : ChangeSpec := { name := "fnExactPutField", fn := fun _ => fun
  | [d1, d2, d3] => { results := [.lit (.bool false)], args := [d1, d2, d3] }
  | _ => none }
def FnExactPutFieldWrongFalsely : Prop := fnExactPutFieldRow.holds Try.pinned (OpenSpec.ofChange fnExactPutFieldWrong)

/-- 'laws.FnExactReOk': WHATEVER THE INPUT: true; the input reads as it did. -/
def fnExactReOkSpec : ChangeSpec := { name := "fnExactReOk", fn := fun _ => fun
  | [d] => { results := [.lit (.bool true)], args := [d] }
  | _ => none }
def fnExactReOkRow : OpenClaim := { program := "ytejjmidhkalfeaa", sum := "32a33b6c692def6fe4253f7bb16a19d80f766c88a32841a49936f0a156c506c3", func := "loop.example/g00700/laws.FnExactReOk", spec := "fnExactReOk", unfollowed := true, recurses := true, apart := false }
def FnExactReOkSaid : Prop := fnExactReOkRow.holds Try.pinned (OpenSpec.ofChange fnExactReOkSpec)

/-- ITS FALSE NEIGHBOUR: 'it returns false'. Refute it at one input. -/
def fnExactReOkWrong : ChangeSpec := { name := "fnExactReOk", fn := fun _ => fun
  | [d] => { results := [.lit (.bool false)], args := [d] }
  | _ => none }
def FnExactReOkWrongFalsely : Prop := fnExactReOkRow.holds Try.pinned (OpenSpec.ofChange fnExactReOkWrong)

/-- 'laws.FnExactPlaceOf': WHATEVER THE INPUT: true; the input reads as it did. -/
def fnExactPlaceOfSpec : ChangeSpec := { name := "fnExactPlaceOf", fn := fun _ => fun
  | [d1, d2] => { results := [.lit (.bool true)], args := [d1, d2] }
  | _ => none }
def fnExactPlaceOfRow : OpenClaim := { program := "ytejjmidhkalfeaa", sum := "32a33b6c692def6fe4253f7bb16a19d80f766c88a32841a49936f0a156c506c3", func := "loop.example/g00700/laws.FnExactPlaceOf", spec := "fnExactPlaceOf", inPlace := ["internal/bytealg.CountString", "internal/bytealg.IndexByteString", "internal/bytealg.IndexString"], named := ["internal/bytealg.MaxLen"], apart := false }
def FnExactPlaceOfSaid : Prop := fnExactPlaceOfRow.holds Try.pinned (OpenSpec.ofChange fnExactPlaceOfSpec)

/-- ITS FALSE NEIGHBOUR: 'it returns false'. Refute it at one input. -/
def fnExactPlaceOfWrong : ChangeSpec := { name := "fnExactPlaceOf", fn := fun _ => fun
  | [d1, d2] => { results := [.lit (.bool false)], args := [d1, d2] }
  | _ => none }
def FnExactPlaceOfWrongFalsely : Prop := fnExactPlaceOfRow.holds Try.pinned (OpenSpec.ofChange fnExactPlaceOfWrong)

/-- 'laws.FnExactCountKind': WHATEVER THE INPUT: true; the input reads as it did. -/
def fnExactCountKindSpec : ChangeSpec := { name := "fnExactCountKind", fn := fun _ => fun
  | [d1, d2] => { results := [.lit (.bool true)], args := [d1, d2] }
  | _ => none }
def fnExactCountKindRow : OpenClaim := { program := "ytejjmidhkalfeaa", sum := "32a33b6c692def6fe4253f7bb16a19d80f766c88a32841a49936f0a156c506c3", func := "loop.example/g00700/laws.FnExactCountKind", spec := "fnExactCountKind", apart := false }
def FnExactCountKindSaid : Prop := fnExactCountKindRow.holds Try.pinned (OpenSpec.ofChange fnExactCountKindSpec)

/-- ITS FALSE NEIGHBOUR: 'it returns false'. Refute it at one input. -/
def fnExactCountKindWrong : ChangeSpec := { name := "fnExactCountKind", fn := fun _ => fun
  | [d1, d2] => { results := [.lit (.bool false)], args := [d1, d2] }
  | _ => none }
def FnExactCountKindWrongFalsely : Prop := fnExactCountKindRow.holds Try.pinned (OpenSpec.ofChange fnExactCountKindWrong)

/-- 'laws.FnExactSameProg': WHATEVER THE INPUT: true; the input reads as it did. -/
def fnExactSameProgSpec : ChangeSpec := { name := "fnExactSameProg", fn := fun _ => fun
  | [d1, d2] => { results := [.lit (.bool true)], args := [d1, d2] }
  | _ => none }
def fnExactSameProgRow : OpenClaim := { program := "ytejjmidhkalfeaa", sum := "32a33b6c692def6fe4253f7bb16a19d80f766c88a32841a49936f0a156c506c3", func := "loop.example/g00700/laws.FnExactSameProg", spec := "fnExactSameProg", unfollowed := true, recurses := true, apart := false }
def FnExactSameProgSaid : Prop := fnExactSameProgRow.holds Try.pinned (OpenSpec.ofChange fnExactSameProgSpec)

/-- ITS FALSE NEIGHBOUR: 'it returns false'. Refute it at one input. -/
def fnExactSameProgWrong : ChangeSpec := { name := "fnExactSameProg", fn := fun _ => fun
  | [d1, d2] => { results := [.lit (.bool false)], args := [d1, d2] }
  | _ => none }
def FnExactSameProgWrongFalsely : Prop := fnExactSameProgRow.holds Try.pinned (OpenSpec.ofChange fnExactSameProgWrong)

/-- 'laws.FnExactReText': WHATEVER THE INPUT: true; the input reads as it did. -/
def fnExactReTextSpec : ChangeSpec := { name := "fnExactReText", fn := fun _ => fun
  | [d] => { results := [.lit (.bool true)], args := [d] }
  | _ => none }
def fnExactReTextRow : OpenClaim := { program := "ytejjmidhkalfeaa", sum := "32a33b6c692def6fe4253f7bb16a19d80f766c88a32841a49936f0a156c506c3", func := "loop.example/g00700/laws.FnExactReText", spec := "fnExactReText", inPlace := ["internal/bytealg.IndexByteString"], unfollowed := true, recurses := true, apart := false }
def FnExactReTextSaid : Prop := fnExactReTextRow.holds Try.pinned (OpenSpec.ofChange fnExactReTextSpec)

/-- ITS FALSE NEIGHBOUR: 'it returns false'. Refute it at one input. -/
def fnExactReTextWrong : ChangeSpec := { name := "fnExactReText", fn := fun _ => fun
  | [d] => { results := [.lit (.bool false)], args := [d] }
  | _ => none }
def FnExactReTextWrongFalsely : Prop := fnExactReTextRow.holds Try.pinned (OpenSpec.ofChange fnExactReTextWrong)

/-- 'laws.FnExactReParse': WHATEVER THE INPUT: true; the input reads as it did. -/
def fnExactReParseSpec : ChangeSpec := { name := "fnExactReParse", fn := fun _ => fun
  | [d] => { results := [.lit (.bool true)], args := [d] }
  | _ => none }
def fnExactReParseRow : OpenClaim := { program := "ytejjmidhkalfeaa", sum := "32a33b6c692def6fe4253f7bb16a19d80f766c88a32841a49936f0a156c506c3", func := "loop.example/g00700/laws.FnExactReParse", spec := "fnExactReParse", inPlace := ["internal/bytealg.IndexByteString"], recurses := true, apart := false }
def FnExactReParseSaid : Prop := fnExactReParseRow.holds Try.pinned (OpenSpec.ofChange fnExactReParseSpec)

/-- ITS FALSE NEIGHBOUR: 'it returns false'. Refute it at one input. -/
def fnExactReParseWrong : ChangeSpec := { name := "fnExactReParse", fn := fun _ => fun
  | [d] => { results := [.lit (.bool false)], args := [d] }
  | _ => none }
def FnExactReParseWrongFalsely : Prop := fnExactReParseRow.holds Try.pinned (OpenSpec.ofChange fnExactReParseWrong)

/- THE SECOND FORM. 'bulk': how many values and letters a reading holds, each counted each time it is reached (what is shared counts as often as it is met; a slice's spare places count too). A statement '..UptoSaid' is the law's where the arguments, and the package variables that the reading takes, are together of bulk at most 1048576: NARROWER than '..Said'. Prove '..Said' where nothing that the law and all that it calls make is longer than what came in: it says more and counts as full. Else prove '..UptoSaid'. A law counts once. -/
mutual
def uptoBulk {H : Type} : DataW H → Nat
  | .lit (.string bytes) => bytes.length + 1
  | .lit _ => 1
  | .nil => 1
  | .ptr d => uptoBulk d + 1
  | .slice elems spare => uptoBulkAll elems + uptoBulkAll spare + 1
  | .agg parts => uptoBulkAll parts + 1
  | .iface _ d => uptoBulk d + 1
  | .map entries => uptoBulkEntries entries + 1
  | .held _ => 1
def uptoBulkAll {H : Type} : List (DataW H) → Nat
  | [] => 0
  | d :: r => uptoBulk d + uptoBulkAll r
def uptoBulkEntries {H : Type} : List (Lit × DataW H) → Nat
  | [] => 0
  | x :: r => uptoBulkEntry x + uptoBulkEntries r
def uptoBulkEntry {H : Type} : Lit × DataW H → Nat
  | (.string bytes, d) => bytes.length + uptoBulk d + 1
  | (_, d) => uptoBulk d + 1
 end
def uptoSmall : (H : Type) → List (DataW H) → Bool := fun _ ds => decide (uptoBulkAll ds ≤ 1048576)
def OpenSpec.upto (s : _root_.Go.ChangeSpec) : _root_.Go.OpenSpec := { _root_.Go.OpenSpec.ofChange s with cond := some uptoSmall }

/-- 'laws.FnExactCellOk', WHERE WHAT IT READS IS OF BULK AT MOST 1048576: true; the input reads as it did. -/
def fnExactCellOkUptoRow : OpenClaim := { program := "ytejjmidhkalfeaa", sum := "32a33b6c692def6fe4253f7bb16a19d80f766c88a32841a49936f0a156c506c3", func := "loop.example/g00700/laws.FnExactCellOk", spec := "fnExactCellOk", unfollowed := true, recurses := true, apart := false, narrowed := true }
def FnExactCellOkUptoSaid : Prop := fnExactCellOkUptoRow.holds Try.pinned (OpenSpec.upto fnExactCellOkSpec)

/-- 'laws.FnExactTruth', WHERE WHAT IT READS IS OF BULK AT MOST 1048576: true; the input reads as it did. -/
def fnExactTruthUptoRow : OpenClaim := { program := "ytejjmidhkalfeaa", sum := "32a33b6c692def6fe4253f7bb16a19d80f766c88a32841a49936f0a156c506c3", func := "loop.example/g00700/laws.FnExactTruth", spec := "fnExactTruth", unfollowed := true, recurses := true, apart := false, narrowed := true }
def FnExactTruthUptoSaid : Prop := fnExactTruthUptoRow.holds Try.pinned (OpenSpec.upto fnExactTruthSpec)

/-- 'laws.FnExactToNum', WHERE WHAT IT READS IS OF BULK AT MOST 1048576: true; the input reads as it did. -/
def fnExactToNumUptoRow : OpenClaim := { program := "ytejjmidhkalfeaa", sum := "32a33b6c692def6fe4253f7bb16a19d80f766c88a32841a49936f0a156c506c3", func := "loop.example/g00700/laws.FnExactToNum", spec := "fnExactToNum", unfollowed := true, recurses := true, apart := false, narrowed := true }
def FnExactToNumUptoSaid : Prop := fnExactToNumUptoRow.holds Try.pinned (OpenSpec.upto fnExactToNumSpec)

/-- 'laws.FnExactPutField', WHERE WHAT IT READS IS OF BULK AT MOST 1048576: true; the input reads as it did. -/
def fnExactPutFieldUptoRow : OpenClaim := { program := "ytejjmidhkalfeaa", sum := "32a33b6c692def6fe4253f7bb16a19d80f766c88a32841a49936f0a156c506c3", func := "loop.example/g00700/laws.FnExactPutField", spec := "fnExactPutField", inPlace := ["internal/abi.NoEscape", "internal/bytealg.MakeNoZero"], apart := false, narrowed := true }
def FnExactPutFieldUptoSaid : Prop := fnExactPutFieldUptoRow.holds Try.pinned (OpenSpec.upto fnExactPutFieldSpec)

/-- 'laws.FnExactReOk', WHERE WHAT IT READS IS OF BULK AT MOST 1048576: true; the input reads as it did. -/
def fnExactReOkUptoRow : OpenClaim := { program := "ytejjmidhkalfeaa", sum := "32a33b6c692def6fe4253f7bb16a19d80f766c88a32841a49936f0a156c506c3", func := "loop.example/g00700/laws.FnExactReOk", spec := "fnExactReOk", unfollowed := true, recurses := true, apart := false, narrowed := true }
def FnExactReOkUptoSaid : Prop := fnExactReOkUptoRow.holds Try.pinned (OpenSpec.upto fnExactReOkSpec)

/-- 'laws.FnExactPlaceOf', WHERE WHAT IT READS IS OF BULK AT MOST 1048576: true; the input reads as it did. -/
def fnExactPlaceOfUptoRow : OpenClaim := { program := "ytejjmidhkalfeaa", sum := "32a33b6c692def6fe4253f7bb16a19d80f766c88a32841a49936f0a156c506c3", func := "loop.example/g00700/laws.FnExactPlaceOf", spec := "fnExactPlaceOf", inPlace := ["internal/bytealg.CountString", "internal/bytealg.IndexByteString", "internal/bytealg.IndexString"], named := ["internal/bytealg.MaxLen"], apart := false, narrowed := true }
def FnExactPlaceOfUptoSaid : Prop := fnExactPlaceOfUptoRow.holds Try.pinned (OpenSpec.upto fnExactPlaceOfSpec)

/-- 'laws.FnExactCountKind', WHERE WHAT IT READS IS OF BULK AT MOST 1048576: true; the input reads as it did. -/
def fnExactCountKindUptoRow : OpenClaim := { program := "ytejjmidhkalfeaa", sum := "32a33b6c692def6fe4253f7bb16a19d80f766c88a32841a49936f0a156c506c3", func := "loop.example/g00700/laws.FnExactCountKind", spec := "fnExactCountKind", apart := false, narrowed := true }
def FnExactCountKindUptoSaid : Prop := fnExactCountKindUptoRow.holds Try.pinned (OpenSpec.upto fnExactCountKindSpec)

/-- 'laws.FnExactSameProg', WHERE WHAT IT READS IS OF BULK AT MOST 1048576: true; the input reads as it did. -/
def fnExactSameProgUptoRow : OpenClaim := { program := "ytejjmidhkalfeaa", sum := "32a33b6c692def6fe4253f7bb16a19d80f766c88a32841a49936f0a156c506c3", func := "loop.example/g00700/laws.FnExactSameProg", spec := "fnExactSameProg", unfollowed := true, recurses := true, apart := false, narrowed := true }
def FnExactSameProgUptoSaid : Prop := fnExactSameProgUptoRow.holds Try.pinned (OpenSpec.upto fnExactSameProgSpec)

/-- 'laws.FnExactReText', WHERE WHAT IT READS IS OF BULK AT MOST 1048576: true; the input reads as it did. -/
def fnExactReTextUptoRow : OpenClaim := { program := "ytejjmidhkalfeaa", sum := "32a33b6c692def6fe4253f7bb16a19d80f766c88a32841a49936f0a156c506c3", func := "loop.example/g00700/laws.FnExactReText", spec := "fnExactReText", inPlace := ["internal/bytealg.IndexByteString"], unfollowed := true, recurses := true, apart := false, narrowed := true }
def FnExactReTextUptoSaid : Prop := fnExactReTextUptoRow.holds Try.pinned (OpenSpec.upto fnExactReTextSpec)

/-- 'laws.FnExactReParse', WHERE WHAT IT READS IS OF BULK AT MOST 1048576: true; the input reads as it did. -/
def fnExactReParseUptoRow : OpenClaim := { program := "ytejjmidhkalfeaa", sum := "32a33b6c692def6fe4253f7bb16a19d80f766c88a32841a49936f0a156c506c3", func := "loop.example/g00700/laws.FnExactReParse", spec := "fnExactReParse", inPlace := ["internal/bytealg.IndexByteString"], recurses := true, apart := false, narrowed := true }
def FnExactReParseUptoSaid : Prop := fnExactReParseUptoRow.holds Try.pinned (OpenSpec.upto fnExactReParseSpec)

end Rows
end Go.Proofs.Ytejjmidhkalfeaa
