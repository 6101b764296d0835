/-
  No cell of these rows narrows 'for every input' (looked for: loops, veiled, ifaces, maps, wideKeys, modest, calm, conditions, laid).
  DERIVED. THE GIVEN ROWS OF THIS SEAT. 3 by the template 'for every input the law returns true; each argument reads behind the call as it read before'; 0 by the template 'total and deterministic' (their statements: YtmddcohelcciaaaTotals.lean).
  GIVEN WITH THE SEED: the statements are not yours to turn. If you find one false, say at which input.
  Laid BY PROGRAM, IN A SANDBOX (cutbox-rows.mjs): the forced cells as the released guide's own fill.sh prints them over the translation 177f714bf63b849f… (all of the seat's roots in one cut). By AI agents, Wed Nov 11 2026. No macro, syntax, notation, axiom, sorry.
-/
import Derived.Test.YtmddcohelcciaaaChecked
import GoSem.Claim
import GoSem.ClaimJoined
import GoSem.ClaimMapViews
import Derived.JoinedTies
import Derived.KernelRfl
namespace Go.Proofs.Ytmddcohelcciaaa
/- THE CELL 'sum', in the pinned program and in every row, IS THE sha256 OF THE DUMP (.gsa) THAT YtmddcohelcciaaaProg.lean LOADS. Nothing in Lean hashes anything: it is a label: what it is worth is what the hold of that sum in a sandbox is worth. -/
noncomputable def Try.pinned : Pinned := { name := "ytmddcohelcciaaa", sum := "177f714bf63b849f79c815b103190db81b685fdf721bdf32bd8ba54fd5cbe596", checked := Try.checked }
namespace Rows
def none {H : Type} : Left H := { results := [], args := [] }

/-- 'laws.FnExactReOk': WHATEVER THE INPUT: true; the input reads as it did. -/
def fnExactReOkSpec : ChangeSpec := { name := "fnExactReOk", fn := fun _ => fun
  | [d] => { results := [.lit (.bool true)], args := [d] }
  | _ => none }
def fnExactReOkRow : OpenClaim := { program := "ytmddcohelcciaaa", sum := "177f714bf63b849f79c815b103190db81b685fdf721bdf32bd8ba54fd5cbe596", func := "loop.example/g00700/laws.FnExactReOk", spec := "fnExactReOk", unfollowed := true, recurses := true, apart := false }
def FnExactReOkSaid : Prop := fnExactReOkRow.holds Try.pinned (OpenSpec.ofChange fnExactReOkSpec)

/-- ITS FALSE NEIGHBOUR: 'it returns false'. Refute it at one input. -/
def fnExactReOkWrong : ChangeSpec := { name := "fnExactReOk", fn := fun _ => fun
  | [d] => { results := [.lit (.bool false)], args := [d] }
  | _ => none }
def FnExactReOkWrongFalsely : Prop := fnExactReOkRow.holds Try.pinned (OpenSpec.ofChange fnExactReOkWrong)

/-- 'laws.FnExactReText': WHATEVER THE INPUT: true; the input reads as it did. -/
def fnExactReTextSpec : ChangeSpec := { name := "fnExactReText", fn := fun _ => fun
  | [d] => { results := [.lit (.bool true)], args := [d] }
  | _ => none }
def fnExactReTextRow : OpenClaim := { program := "ytmddcohelcciaaa", sum := "177f714bf63b849f79c815b103190db81b685fdf721bdf32bd8ba54fd5cbe596", func := "loop.example/g00700/laws.FnExactReText", spec := "fnExactReText", inPlace := ["internal/bytealg.IndexByteString"], unfollowed := true, recurses := true, apart := false }
def FnExactReTextSaid : Prop := fnExactReTextRow.holds Try.pinned (OpenSpec.ofChange fnExactReTextSpec)

/-- ITS FALSE NEIGHBOUR: 'it returns false'. Refute it at one input. -/
def fnExactReTextWrong : ChangeSpec := { name := "fnExactReText", fn := fun _ => fun
  | [d] => { results := [.lit (.bool false)], args := [d] }
  | _ => none }
def FnExactReTextWrongFalsely : Prop := fnExactReTextRow.holds Try.pinned (OpenSpec.ofChange fnExactReTextWrong)

/-- 'laws.FnExactReParse': WHATEVER THE INPUT: true; the input reads as it did. -/
def fnExactReParseSpec : ChangeSpec := { name := "fnExactReParse", fn := fun _ => fun
  | [d] => { results := [.lit (.bool true)], args := [d] }
  | _ => none }
def fnExactReParseRow : OpenClaim := { program := "ytmddcohelcciaaa", sum := "177f714bf63b849f79c815b103190db81b685fdf721bdf32bd8ba54fd5cbe596", func := "loop.example/g00700/laws.FnExactReParse", spec := "fnExactReParse", inPlace := ["internal/bytealg.IndexByteString"], recurses := true, apart := false }
def FnExactReParseSaid : Prop := fnExactReParseRow.holds Try.pinned (OpenSpec.ofChange fnExactReParseSpec)

/-- ITS FALSE NEIGHBOUR: 'it returns false'. Refute it at one input. -/
def fnExactReParseWrong : ChangeSpec := { name := "fnExactReParse", fn := fun _ => fun
  | [d] => { results := [.lit (.bool false)], args := [d] }
  | _ => none }
def FnExactReParseWrongFalsely : Prop := fnExactReParseRow.holds Try.pinned (OpenSpec.ofChange fnExactReParseWrong)

/- THE SECOND FORM. 'bulk': how many values and letters a reading holds, each counted each time it is reached (what is shared counts as often as it is met; a slice's spare places count too). A statement '..UptoSaid' is the law's where the arguments, and the package variables that the reading takes, are together of bulk at most 1048576: NARROWER than '..Said'. Prove '..Said' where nothing that the law and all that it calls make is longer than what came in: it says more and counts as full. Else prove '..UptoSaid'. A law counts once. -/
mutual
def uptoBulk {H : Type} : DataW H → Nat
  | .lit (.string bytes) => bytes.length + 1
  | .lit _ => 1
  | .nil => 1
  | .ptr d => uptoBulk d + 1
  | .slice elems spare => uptoBulkAll elems + uptoBulkAll spare + 1
  | .agg parts => uptoBulkAll parts + 1
  | .iface _ d => uptoBulk d + 1
  | .map entries => uptoBulkEntries entries + 1
  | .held _ => 1
def uptoBulkAll {H : Type} : List (DataW H) → Nat
  | [] => 0
  | d :: r => uptoBulk d + uptoBulkAll r
def uptoBulkEntries {H : Type} : List (Lit × DataW H) → Nat
  | [] => 0
  | x :: r => uptoBulkEntry x + uptoBulkEntries r
def uptoBulkEntry {H : Type} : Lit × DataW H → Nat
  | (.string bytes, d) => bytes.length + uptoBulk d + 1
  | (_, d) => uptoBulk d + 1
 end
def uptoSmall : (H : Type) → List (DataW H) → Bool := fun _ ds => decide (uptoBulkAll ds ≤ 1048576)
def OpenSpec.upto (s : _root_.Go.ChangeSpec) : _root_.Go.OpenSpec := { _root_.Go.OpenSpec.ofChange s with cond := some uptoSmall }

/-- 'laws.FnExactReOk', WHERE WHAT IT READS IS OF BULK AT MOST 1048576: true; the input reads as it did. -/
def fnExactReOkUptoRow : OpenClaim := { program := "ytmddcohelcciaaa", sum := "177f714bf63b849f79c815b103190db81b685fdf721bdf32bd8ba54fd5cbe596", func := "loop.example/g00700/laws.FnExactReOk", spec := "fnExactReOk", unfollowed := true, recurses := true, apart := false, narrowed := true }
def FnExactReOkUptoSaid : Prop := fnExactReOkUptoRow.holds Try.pinned (OpenSpec.upto fnExactReOkSpec)

/-- 'laws.FnExactReText', WHERE WHAT IT READS IS OF BULK AT MOST 1048576: true; the input reads as it did. -/
def fnExactReTextUptoRow : OpenClaim := { program := "ytmddcohelcciaaa", sum := "177f714bf63b849f79c815b103190db81b685fdf721bdf32bd8ba54fd5cbe596", func := "loop.example/g00700/laws.FnExactReText", spec := "fnExactReText", inPlace := ["internal/bytealg.IndexByteString"], unfollowed := true, recurses := true, apart := false, narrowed := true }
def FnExactReTextUptoSaid : Prop := fnExactReTextUptoRow.holds Try.pinned (OpenSpec.upto fnExactReTextSpec)

/-- 'laws.FnExactReParse', WHERE WHAT IT READS IS OF BULK AT MOST 1048576: true; the input reads as it did. -/
def fnExactReParseUptoRow : OpenClaim := { program := "ytmddcohelcciaaa", sum := "177f714bf63b849f79c815b103190db81b685fdf721bdf32bd8ba54fd5cbe596", func := "loop.example/g00700/laws.FnExactReParse", spec := "fnExactReParse", inPlace := ["internal/bytealg.IndexByteString"], recurses := true, apart := false, narrowed := true }
def FnExactReParseUptoSaid : Prop := fnExactReParseUptoRow.holds Try.pinned (OpenSpec.upto fnExactReParseSpec)

end Rows
end Go.Proofs.Ytmddcohelcciaaa
