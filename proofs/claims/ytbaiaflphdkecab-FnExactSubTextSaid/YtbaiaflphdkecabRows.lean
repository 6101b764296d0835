/-
  No cell of these rows narrows 'for every input' (looked for: loops, veiled, ifaces, maps, wideKeys, modest, calm, conditions, laid).
  DERIVED. THE GIVEN ROWS OF THIS SEAT. 5 by the template 'for every input the law returns true; each argument reads behind the call as it read before'; 0 by the template 'total and deterministic' (their statements: YtbaiaflphdkecabTotals.lean).
  GIVEN WITH THE SEED: the statements are not yours to turn. If you find one false, say at which input.
  Laid BY PROGRAM, IN A SANDBOX (cutbox-rows.mjs): the forced cells as the released guide's own fill.sh prints them over the translation 28cea03fc095d8d7… (all of the seat's roots in one cut). By AI agents, Wed Nov 11 2026. No macro, syntax, notation, axiom, sorry.
-/
import Derived.Test.YtbaiaflphdkecabChecked
import GoSem.Claim
import GoSem.ClaimJoined
import GoSem.ClaimMapViews
import Derived.JoinedTies
import Derived.KernelRfl
namespace Go.Proofs.Ytbaiaflphdkecab
/- THE CELL 'sum', in the pinned program and in every row, IS THE sha256 OF THE DUMP (.gsa) THAT YtbaiaflphdkecabProg.lean LOADS. Nothing in Lean hashes anything: it is a label: what it is worth is what the hold of that sum in a sandbox is worth. -/
noncomputable def Try.pinned : Pinned := { name := "ytbaiaflphdkecab", sum := "28cea03fc095d8d70ebbd43d6e1c03efc04054df6ab5ab28a3582c0e13cf1ed1", checked := Try.checked }
namespace Rows
def none {H : Type} : Left H := { results := [], args := [] }

/-- 'laws.FnExactDecNeg': WHATEVER THE INPUT: true; the input reads as it did. -/
def fnExactDecNegSpec : ChangeSpec := { name := "fnExactDecNeg", fn := fun _ => fun
  | [d] => { results := [.lit (.bool true)], args := [d] }
  | _ => none }
def fnExactDecNegRow : OpenClaim := { program := "ytbaiaflphdkecab", sum := "28cea03fc095d8d70ebbd43d6e1c03efc04054df6ab5ab28a3582c0e13cf1ed1", func := "loop.example/g00700/laws.FnExactDecNeg", spec := "fnExactDecNeg", apart := false }
def FnExactDecNegSaid : Prop := fnExactDecNegRow.holds Try.pinned (OpenSpec.ofChange fnExactDecNegSpec)

/-- ITS FALSE NEIGHBOUR: 'it returns false'. Refute it at one input. -/
def fnExactDecNegWrong : ChangeSpec := { name := "fnExactDecNeg", fn := fun _ => fun
  | [d] => { results := [.lit (.bool false)], args := [d] }
  | _ => none }
def FnExactDecNegWrongFalsely : Prop := fnExactDecNegRow.holds Try.pinned (OpenSpec.ofChange fnExactDecNegWrong)

/-- 'laws.FnExactDecMod': WHATEVER THE INPUT: true; the input reads as it did. -/
def fnExactDecModSpec : ChangeSpec := { name := "fnExactDecMod", fn := fun _ => fun
  | [d1, d2] => { results := [.lit (.bool true)], args := [d1, d2] }
  | _ => none }
def fnExactDecModRow : OpenClaim := { program := "ytbaiaflphdkecab", sum := "28cea03fc095d8d70ebbd43d6e1c03efc04054df6ab5ab28a3582c0e13cf1ed1", func := "loop.example/g00700/laws.FnExactDecMod", spec := "fnExactDecMod", apart := false }
def FnExactDecModSaid : Prop := fnExactDecModRow.holds Try.pinned (OpenSpec.ofChange fnExactDecModSpec)

/-- ITS FALSE NEIGHBOUR: 'it returns false'. Refute it at one input. -/
def fnExactDecModWrong : ChangeSpec := { name := "fnExactDecMod", fn := fun _ => fun
  | [d1, d2] => { results := [.lit (.bool false)], args := [d1, d2] }
  | _ => none }
def FnExactDecModWrongFalsely : Prop := fnExactDecModRow.holds Try.pinned (OpenSpec.ofChange fnExactDecModWrong)

/-- 'laws.FnExactSubText': WHATEVER THE INPUT: true; the input reads as it did. -/
def fnExactSubTextSpec : ChangeSpec := { name := "fnExactSubText", fn := fun _ => fun
  | [d1, d2, d3] => { results := [.lit (.bool true)], args := [d1, d2, d3] }
  | _ => none }
def fnExactSubTextRow : OpenClaim := { program := "ytbaiaflphdkecab", sum := "28cea03fc095d8d70ebbd43d6e1c03efc04054df6ab5ab28a3582c0e13cf1ed1", func := "loop.example/g00700/laws.FnExactSubText", spec := "fnExactSubText", apart := false }
def FnExactSubTextSaid : Prop := fnExactSubTextRow.holds Try.pinned (OpenSpec.ofChange fnExactSubTextSpec)

/-- ITS FALSE NEIGHBOUR: 'it returns false'. Refute it at one input. -/
def fnExactSubTextWrong : ChangeSpec := { name := "fnExactSubText", fn := fun _ => fun
  | [d1, d2, d3] => { results := [.lit (.bool false)], args := [d1, d2, d3] }
  | _ => none }
def FnExactSubTextWrongFalsely : Prop := fnExactSubTextRow.holds Try.pinned (OpenSpec.ofChange fnExactSubTextWrong)

/-- 'laws.FnExactDecCmp': WHATEVER THE INPUT: true; the input reads as it did. -/
def fnExactDecCmpSpec : ChangeSpec := { name := "fnExactDecCmp", fn := fun _ => fun
  | [d1, d2] => { results := [.lit (.bool true)], args := [d1, d2] }
  | _ => none }
def fnExactDecCmpRow : OpenClaim := { program := "ytbaiaflphdkecab", sum := "28cea03fc095d8d70ebbd43d6e1c03efc04054df6ab5ab28a3582c0e13cf1ed1", func := "loop.example/g00700/laws.FnExactDecCmp", spec := "fnExactDecCmp", apart := false }
def FnExactDecCmpSaid : Prop := fnExactDecCmpRow.holds Try.pinned (OpenSpec.ofChange fnExactDecCmpSpec)

/-- ITS FALSE NEIGHBOUR: 'it returns false'. Refute it at one input. -/
def fnExactDecCmpWrong : ChangeSpec := { name := "fnExactDecCmp", fn := fun _ => fun
  | [d1, d2] => { results := [.lit (.bool false)], args := [d1, d2] }
  | _ => none }
def FnExactDecCmpWrongFalsely : Prop := fnExactDecCmpRow.holds Try.pinned (OpenSpec.ofChange fnExactDecCmpWrong)

/-- 'laws.FnExactIsWord': WHATEVER THE INPUT: true; the input reads as it did. -/
def fnExactIsWordSpec : ChangeSpec := { name := "fnExactIsWord", fn := fun _ => fun
  | [d] => { results := [.lit (.bool true)], args := [d] }
  | _ => none }
def fnExactIsWordRow : OpenClaim := { program := "ytbaiaflphdkecab", sum := "28cea03fc095d8d70ebbd43d6e1c03efc04054df6ab5ab28a3582c0e13cf1ed1", func := "loop.example/g00700/laws.FnExactIsWord", spec := "fnExactIsWord", apart := false }
def FnExactIsWordSaid : Prop := fnExactIsWordRow.holds Try.pinned (OpenSpec.ofChange fnExactIsWordSpec)

/-- ITS FALSE NEIGHBOUR: 'it returns false'. Refute it at one input. -/
def fnExactIsWordWrong : ChangeSpec := { name := "fnExactIsWord", fn := fun _ => fun
  | [d] => { results := [.lit (.bool false)], args := [d] }
  | _ => none }
def FnExactIsWordWrongFalsely : Prop := fnExactIsWordRow.holds Try.pinned (OpenSpec.ofChange fnExactIsWordWrong)

/- THE SECOND FORM. 'bulk': how many values and letters a reading holds, each counted each time it is reached (what is shared counts as often as it is met; a slice's spare places count too). A statement '..UptoSaid' is the law's where the arguments, and the package variables that the reading takes, are together of bulk at most 1048576: NARROWER than '..Said'. Prove '..Said' where nothing that the law and all that it calls make is longer than what came in: it says more and counts as full. Else prove '..UptoSaid'. A law counts once. -/
mutual
def uptoBulk {H : Type} : DataW H → Nat
  | .lit (.string bytes) => bytes.length + 1
  | .lit _ => 1
  | .nil => 1
  | .ptr d => uptoBulk d + 1
  | .slice elems spare => uptoBulkAll elems + uptoBulkAll spare + 1
  | .agg parts => uptoBulkAll parts + 1
  | .iface _ d => uptoBulk d + 1
  | .map entries => uptoBulkEntries entries + 1
  | .held _ => 1
def uptoBulkAll {H : Type} : List (DataW H) → Nat
  | [] => 0
  | d :: r => uptoBulk d + uptoBulkAll r
def uptoBulkEntries {H : Type} : List (Lit × DataW H) → Nat
  | [] => 0
  | x :: r => uptoBulkEntry x + uptoBulkEntries r
def uptoBulkEntry {H : Type} : Lit × DataW H → Nat
  | (.string bytes, d) => bytes.length + uptoBulk d + 1
  | (_, d) => uptoBulk d + 1
 end
def uptoSmall : (H : Type) → List (DataW H) → Bool := fun _ ds => decide (uptoBulkAll ds ≤ 1048576)
def OpenSpec.upto (s : _root_.Go.ChangeSpec) : _root_.Go.OpenSpec := { _root_.Go.OpenSpec.ofChange s with cond := some uptoSmall }

/-- 'laws.FnExactDecNeg', WHERE WHAT IT READS IS OF BULK AT MOST 1048576: true; the input reads as it did. -/
def fnExactDecNegUptoRow : OpenClaim := { program := "ytbaiaflphdkecab", sum := "28cea03fc095d8d70ebbd43d6e1c03efc04054df6ab5ab28a3582c0e13cf1ed1", func := "loop.example/g00700/laws.FnExactDecNeg", spec := "fnExactDecNeg", apart := false, narrowed := true }
def FnExactDecNegUptoSaid : Prop := fnExactDecNegUptoRow.holds Try.pinned (OpenSpec.upto fnExactDecNegSpec)

/-- 'laws.FnExactDecMod', WHERE WHAT IT READS IS OF BULK AT MOST 1048576: true; the input reads as it did. -/
def fnExactDecModUptoRow : OpenClaim := { program := "ytbaiaflphdkecab", sum := "28cea03fc095d8d70ebbd43d6e1c03efc04054df6ab5ab28a3582c0e13cf1ed1", func := "loop.example/g00700/laws.FnExactDecMod", spec := "fnExactDecMod", apart := false, narrowed := true }
def FnExactDecModUptoSaid : Prop := fnExactDecModUptoRow.holds Try.pinned (OpenSpec.upto fnExactDecModSpec)

/-- 'laws.FnExactSubText', WHERE WHAT IT READS IS OF BULK AT MOST 1048576: true; the input reads as it did. -/
def fnExactSubTextUptoRow : OpenClaim := { program := "ytbaiaflphdkecab", sum := "28cea03fc095d8d70ebbd43d6e1c03efc04054df6ab5ab28a3582c0e13cf1ed1", func := "loop.example/g00700/laws.FnExactSubText", spec := "fnExactSubText", apart := false, narrowed := true }
def FnExactSubTextUptoSaid : Prop := fnExactSubTextUptoRow.holds Try.pinned (OpenSpec.upto fnExactSubTextSpec)

/-- 'laws.FnExactDecCmp', WHERE WHAT IT READS IS OF BULK AT MOST 1048576: true; the input reads as it did. -/
def fnExactDecCmpUptoRow : OpenClaim := { program := "ytbaiaflphdkecab", sum := "28cea03fc095d8d70ebbd43d6e1c03efc04054df6ab5ab28a3582c0e13cf1ed1", func := "loop.example/g00700/laws.FnExactDecCmp", spec := "fnExactDecCmp", apart := false, narrowed := true }
def FnExactDecCmpUptoSaid : Prop := fnExactDecCmpUptoRow.holds Try.pinned (OpenSpec.upto fnExactDecCmpSpec)

/-- 'laws.FnExactIsWord', WHERE WHAT IT READS IS OF BULK AT MOST 1048576: true; the input reads as it did. -/
def fnExactIsWordUptoRow : OpenClaim := { program := "ytbaiaflphdkecab", sum := "28cea03fc095d8d70ebbd43d6e1c03efc04054df6ab5ab28a3582c0e13cf1ed1", func := "loop.example/g00700/laws.FnExactIsWord", spec := "fnExactIsWord", apart := false, narrowed := true }
def FnExactIsWordUptoSaid : Prop := fnExactIsWordUptoRow.holds Try.pinned (OpenSpec.upto fnExactIsWordSpec)

end Rows
end Go.Proofs.Ytbaiaflphdkecab
