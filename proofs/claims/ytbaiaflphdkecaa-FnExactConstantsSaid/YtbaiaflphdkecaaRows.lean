/-
  No cell of these rows narrows 'for every input' (looked for: loops, veiled, ifaces, maps, wideKeys, modest, calm, conditions, laid).
  DERIVED. THE GIVEN ROWS OF THIS SEAT. 5 by the template 'for every input the law returns true; each argument reads behind the call as it read before'; 0 by the template 'total and deterministic' (their statements: YtbaiaflphdkecaaTotals.lean).
  GIVEN WITH THE SEED: the statements are not yours to turn. If you find one false, say at which input.
  Laid BY PROGRAM, IN A SANDBOX (cutbox-rows.mjs): the forced cells as the released guide's own fill.sh prints them over the translation e50683443a9c2994… (all of the seat's roots in one cut). By AI agents, Wed Nov 11 2026. No macro, syntax, notation, axiom, sorry.
-/
import Derived.Test.YtbaiaflphdkecaaChecked
import GoSem.Claim
import GoSem.ClaimJoined
import GoSem.ClaimMapViews
import Derived.JoinedTies
import Derived.KernelRfl
namespace Go.Proofs.Ytbaiaflphdkecaa
/- THE CELL 'sum', in the pinned program and in every row, IS THE sha256 OF THE DUMP (.gsa) THAT YtbaiaflphdkecaaProg.lean LOADS. Nothing in Lean hashes anything: it is a label: what it is worth is what the hold of that sum in a sandbox is worth. -/
noncomputable def Try.pinned : Pinned := { name := "ytbaiaflphdkecaa", sum := "e50683443a9c29944d53e9fd142161e8e2c0f8c9bb525dc6b6b507727cdb39f1", checked := Try.checked }
namespace Rows
def none {H : Type} : Left H := { results := [], args := [] }

/-- 'laws.FnExactConstants': WHATEVER THE INPUT: true; the input reads as it did. -/
def fnExactConstantsSpec : ChangeSpec := { name := "fnExactConstants", fn := fun _ => fun
  | [] => { results := [.lit (.bool true)], args := [] }
  | _ => none }
def fnExactConstantsRow : OpenClaim := { program := "ytbaiaflphdkecaa", sum := "e50683443a9c29944d53e9fd142161e8e2c0f8c9bb525dc6b6b507727cdb39f1", func := "loop.example/g00700/laws.FnExactConstants", spec := "fnExactConstants", apart := false }
def FnExactConstantsSaid : Prop := fnExactConstantsRow.holds Try.pinned (OpenSpec.ofChange fnExactConstantsSpec)

/-- ITS FALSE NEIGHBOUR: 'it returns false'. Refute it at one input. -/
def fnExactConstantsWrong : ChangeSpec := { name := "fnExactConstants", fn := fun _ => fun
  | [] => { results := [.lit (.bool false)], args := [] }
  | _ => none }
def FnExactConstantsWrongFalsely : Prop := fnExactConstantsRow.holds Try.pinned (OpenSpec.ofChange fnExactConstantsWrong)

/-- 'laws.FnExactDecOk': WHATEVER THE INPUT: true; the input reads as it did. -/
def fnExactDecOkSpec : ChangeSpec := { name := "fnExactDecOk", fn := fun _ => fun
  | [d] => { results := [.lit (.bool true)], args := [d] }
  | _ => none }
def fnExactDecOkRow : OpenClaim := { program := "ytbaiaflphdkecaa", sum := "e50683443a9c29944d53e9fd142161e8e2c0f8c9bb525dc6b6b507727cdb39f1", func := "loop.example/g00700/laws.FnExactDecOk", spec := "fnExactDecOk", apart := false }
def FnExactDecOkSaid : Prop := fnExactDecOkRow.holds Try.pinned (OpenSpec.ofChange fnExactDecOkSpec)

/-- ITS FALSE NEIGHBOUR: 'it returns false'. Refute it at one input. -/
def fnExactDecOkWrong : ChangeSpec := { name := "fnExactDecOk", fn := fun _ => fun
  | [d] => { results := [.lit (.bool false)], args := [d] }
  | _ => none }
def FnExactDecOkWrongFalsely : Prop := fnExactDecOkRow.holds Try.pinned (OpenSpec.ofChange fnExactDecOkWrong)

/-- 'laws.FnExactUpper': WHATEVER THE INPUT: true; the input reads as it did. -/
def fnExactUpperSpec : ChangeSpec := { name := "fnExactUpper", fn := fun _ => fun
  | [d] => { results := [.lit (.bool true)], args := [d] }
  | _ => none }
def fnExactUpperRow : OpenClaim := { program := "ytbaiaflphdkecaa", sum := "e50683443a9c29944d53e9fd142161e8e2c0f8c9bb525dc6b6b507727cdb39f1", func := "loop.example/g00700/laws.FnExactUpper", spec := "fnExactUpper", apart := false }
def FnExactUpperSaid : Prop := fnExactUpperRow.holds Try.pinned (OpenSpec.ofChange fnExactUpperSpec)

/-- ITS FALSE NEIGHBOUR: 'it returns false'. Refute it at one input. -/
def fnExactUpperWrong : ChangeSpec := { name := "fnExactUpper", fn := fun _ => fun
  | [d] => { results := [.lit (.bool false)], args := [d] }
  | _ => none }
def FnExactUpperWrongFalsely : Prop := fnExactUpperRow.holds Try.pinned (OpenSpec.ofChange fnExactUpperWrong)

/-- 'laws.FnExactDecFrac': WHATEVER THE INPUT: true; the input reads as it did. -/
def fnExactDecFracSpec : ChangeSpec := { name := "fnExactDecFrac", fn := fun _ => fun
  | [d] => { results := [.lit (.bool true)], args := [d] }
  | _ => none }
def fnExactDecFracRow : OpenClaim := { program := "ytbaiaflphdkecaa", sum := "e50683443a9c29944d53e9fd142161e8e2c0f8c9bb525dc6b6b507727cdb39f1", func := "loop.example/g00700/laws.FnExactDecFrac", spec := "fnExactDecFrac", apart := false }
def FnExactDecFracSaid : Prop := fnExactDecFracRow.holds Try.pinned (OpenSpec.ofChange fnExactDecFracSpec)

/-- ITS FALSE NEIGHBOUR: 'it returns false'. Refute it at one input. -/
def fnExactDecFracWrong : ChangeSpec := { name := "fnExactDecFrac", fn := fun _ => fun
  | [d] => { results := [.lit (.bool false)], args := [d] }
  | _ => none }
def FnExactDecFracWrongFalsely : Prop := fnExactDecFracRow.holds Try.pinned (OpenSpec.ofChange fnExactDecFracWrong)

/-- 'laws.FnExactDecInt': WHATEVER THE INPUT: true; the input reads as it did. -/
def fnExactDecIntSpec : ChangeSpec := { name := "fnExactDecInt", fn := fun _ => fun
  | [d] => { results := [.lit (.bool true)], args := [d] }
  | _ => none }
def fnExactDecIntRow : OpenClaim := { program := "ytbaiaflphdkecaa", sum := "e50683443a9c29944d53e9fd142161e8e2c0f8c9bb525dc6b6b507727cdb39f1", func := "loop.example/g00700/laws.FnExactDecInt", spec := "fnExactDecInt", apart := false }
def FnExactDecIntSaid : Prop := fnExactDecIntRow.holds Try.pinned (OpenSpec.ofChange fnExactDecIntSpec)

/-- ITS FALSE NEIGHBOUR: 'it returns false'. Refute it at one input. -/
def fnExactDecIntWrong : ChangeSpec := { name := "fnExactDecInt", fn := fun _ => fun
  | [d] => { results := [.lit (.bool false)], args := [d] }
  | _ => none }
def FnExactDecIntWrongFalsely : Prop := fnExactDecIntRow.holds Try.pinned (OpenSpec.ofChange fnExactDecIntWrong)

/- THE SECOND FORM. 'bulk': how many values and letters a reading holds, each counted each time it is reached (what is shared counts as often as it is met; a slice's spare places count too). A statement '..UptoSaid' is the law's where the arguments, and the package variables that the reading takes, are together of bulk at most 1048576: NARROWER than '..Said'. Prove '..Said' where nothing that the law and all that it calls make is longer than what came in: it says more and counts as full. Else prove '..UptoSaid'. A law counts once. -/
mutual
def uptoBulk {H : Type} : DataW H → Nat
  | .lit (.string bytes) => bytes.length + 1
  | .lit _ => 1
  | .nil => 1
  | .ptr d => uptoBulk d + 1
  | .slice elems spare => uptoBulkAll elems + uptoBulkAll spare + 1
  | .agg parts => uptoBulkAll parts + 1
  | .iface _ d => uptoBulk d + 1
  | .map entries => uptoBulkEntries entries + 1
  | .held _ => 1
def uptoBulkAll {H : Type} : List (DataW H) → Nat
  | [] => 0
  | d :: r => uptoBulk d + uptoBulkAll r
def uptoBulkEntries {H : Type} : List (Lit × DataW H) → Nat
  | [] => 0
  | x :: r => uptoBulkEntry x + uptoBulkEntries r
def uptoBulkEntry {H : Type} : Lit × DataW H → Nat
  | (.string bytes, d) => bytes.length + uptoBulk d + 1
  | (_, d) => uptoBulk d + 1
 end
def uptoSmall : (H : Type) → List (DataW H) → Bool := fun _ ds => decide (uptoBulkAll ds ≤ 1048576)
def OpenSpec.upto (s : _root_.Go.ChangeSpec) : _root_.Go.OpenSpec := { _root_.Go.OpenSpec.ofChange s with cond := some uptoSmall }

/-- 'laws.FnExactConstants', WHERE WHAT IT READS IS OF BULK AT MOST 1048576: true; the input reads as it did. -/
def fnExactConstantsUptoRow : OpenClaim := { program := "ytbaiaflphdkecaa", sum := "e50683443a9c29944d53e9fd142161e8e2c0f8c9bb525dc6b6b507727cdb39f1", func := "loop.example/g00700/laws.FnExactConstants", spec := "fnExactConstants", apart := false, narrowed := true }
def FnExactConstantsUptoSaid : Prop := fnExactConstantsUptoRow.holds Try.pinned (OpenSpec.upto fnExactConstantsSpec)

/-- 'laws.FnExactDecOk', WHERE WHAT IT READS IS OF BULK AT MOST 1048576: true; the input reads as it did. -/
def fnExactDecOkUptoRow : OpenClaim := { program := "ytbaiaflphdkecaa", sum := "e50683443a9c29944d53e9fd142161e8e2c0f8c9bb525dc6b6b507727cdb39f1", func := "loop.example/g00700/laws.FnExactDecOk", spec := "fnExactDecOk", apart := false, narrowed := true }
def FnExactDecOkUptoSaid : Prop := fnExactDecOkUptoRow.holds Try.pinned (OpenSpec.upto fnExactDecOkSpec)

/-- 'laws.FnExactUpper', WHERE WHAT IT READS IS OF BULK AT MOST 1048576: true; the input reads as it did. -/
def fnExactUpperUptoRow : OpenClaim := { program := "ytbaiaflphdkecaa", sum := "e50683443a9c29944d53e9fd142161e8e2c0f8c9bb525dc6b6b507727cdb39f1", func := "loop.example/g00700/laws.FnExactUpper", spec := "fnExactUpper", apart := false, narrowed := true }
def FnExactUpperUptoSaid : Prop := fnExactUpperUptoRow.holds Try.pinned (OpenSpec.upto fnExactUpperSpec)

/-- 'laws.FnExactDecFrac', WHERE WHAT IT READS IS OF BULK AT MOST 1048576: true; the input reads as it did. -/
def fnExactDecFracUptoRow : OpenClaim := { program := "ytbaiaflphdkecaa", sum := "e50683443a9c29944d53e9fd142161e8e2c0f8c9bb525dc6b6b507727cdb39f1", func := "loop.example/g00700/laws.FnExactDecFrac", spec := "fnExactDecFrac", apart := false, narrowed := true }
def FnExactDecFracUptoSaid : Prop := fnExactDecFracUptoRow.holds Try.pinned (OpenSpec.upto fnExactDecFracSpec)

/-- 'laws.FnExactDecInt', WHERE WHAT IT READS IS OF BULK AT MOST 1048576: true; the input reads as it did. -/
def fnExactDecIntUptoRow : OpenClaim := { program := "ytbaiaflphdkecaa", sum := "e50683443a9c29944d53e9fd142161e8e2c0f8c9bb525dc6b6b507727cdb39f1", func := "loop.example/g00700/laws.FnExactDecInt", spec := "fnExactDecInt", apart := false, narrowed := true }
def FnExactDecIntUptoSaid : Prop := fnExactDecIntUptoRow.holds Try.pinned (OpenSpec.upto fnExactDecIntSpec)

end Rows
end Go.Proofs.Ytbaiaflphdkecaa
