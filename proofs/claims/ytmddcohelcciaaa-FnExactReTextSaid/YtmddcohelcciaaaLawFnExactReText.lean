-- XPRINTED: written by a program of this session (wip/xprint), which turns the kit's print
import Derived.Test.YtmddcohelcciaaaXRows
import Derived.Lib.SmallJoins
import Derived.Test.YtmddcohelcciaaaRows
import Derived.Test.YtmddcohelcciaaaPFnExactReTextx13
import Derived.Test.YtmddcohelcciaaaPureFnExactReText
import Derived.WalkKit
import Derived.ProofKit
import Derived.OpenShut
import Derived.ShutString
import Derived.ChangeOld
import Derived.Below
import Derived.SizedLaws
import Derived.Test.YtmddcohelcciaaaWMore
namespace Go.Proofs.Ytmddcohelcciaaa.fnExactReText
open Go.ChangeShapes Go.WideShapes Go.ChangeAt Go.RowKit
open Go.ChangeMaps (open_string shut_string)
set_option linter.unusedVariables false
theorem own : ownKnob Try.prog.godebug = none := by kernel_rfl
theorem laidOut : laidOutB Try.prog = true := by kernel_rfl
def IsRow (k : IntKind) (w : World) (a : Option Addr) (len cap : Nat) (zs : List Int) : Prop :=
  (a = none ∧ len = 0 ∧ cap = 0 ∧ zs = []) ∨
  ∃ x, a = some x ∧ len ≤ cap ∧ cap ≤ maxLen ∧ zs.length = cap ∧ (∀ i, i < zs.length → w.cell? (x.add i) = some (.int k (zs.getD i 0))) ∧ ∀ n ∈ zs, (Lit.int k n).wf = true
set_option maxRecDepth 100000 in
theorem lifted (os : Os) (started : os.Started) (H : Type) (enc : TypeId × Value → H) :
    ReturnsInHanded {} Try.checked os 4 .any (Rows.fnExactReTextSpec.pre6 enc Try.prog Try.f4 Rows.fnExactReTextRow.domain false) (Rows.fnExactReTextSpec.post enc Try.prog Try.f4 false true false false) := by
  refine returnsInHanded_of_change_sized (C := Try.checked) own started (by kernel_rfl) Try.func4
    (ChangeSpec.witness6 (enc := enc) (C := Try.checked) false ⟨#[], #[.slice none 0 0], []⟩ 8 (by kernel_rfl) (by kernel_rfl) (by kernel_rfl) (by kernel_rfl)) ?_
  intro W base args ds gs before hval0 hW hcnd hsz0 _
  have hsz : (DataW.weightsEach Try.prog (Try.f4.params.toList ++ Rows.fnExactReTextSpec.plain.varTypes Try.prog) (ds ++ gs)).all (· ≤ reachBytes) = true := hsz0
  have hval : ∀ (j : Nat) t v, Try.f4.params[j]? = some t → args[j]? = some v → Value.okWide Try.prog W .any base t v := hval0
  have hW' := hW
  obtain ⟨p, q, hA0, hV, rfl, hfz, hnd⟩ := hW
  have hA : DataW.TrodAll enc Try.prog W 0 (fun _ => true) true Try.f4.params.toList args.toList ds p := hA0
  rw [Try.params4] at hA hval hsz
  obtain ⟨v0, vs0, d0, ds0, p0, q0, hargs, rfl, rfl, h0, r0⟩ := trodAll_cons hA
  obtain ⟨rfl, rfl, rfl⟩ := trodAll_nil r0
  obtain rfl : args = #[v0] := by cases args; simp_all
  obtain ⟨rfl, rfl⟩ := trodVars_none hV
  obtain ⟨a0, len0, cap0, rfl⟩ := okWide_slice Try.underlying22 (hval 0 22 v0 rfl rfl)
  have k0 := h0
  have lt0 : ∀ x ∈ p0, x.block < W.heap.size := by obtain ⟨m, hm⟩ := k0; exact DataW.trod_lt m _ _ _ hm
  have el0 : ∀ (fuel : Nat) (cs : List Value) (y : DataW H × List MemPlace), DataW.trod enc Try.prog W 0 (fun _ => true) true fuel 37 cs = some y → ∃ x : Go.Proofs.Ytmddcohelcciaaa.PFnExactReText.S37, Go.Proofs.Ytmddcohelcciaaa.PFnExactReText.k37.K W x cs ∧ ((Lit.int .i64 x.f0).wf = true ∧ x.f2.size ≤ maxLen ∧ x.f3.length ≤ maxLen ∧ (∀ y ∈ x.f3, (Lit.int .i64 y).wf = true)) := by
    intro fuel cs y h
    obtain ⟨v0, v1, v2, v3, n, y0, y1, y2, y3, rfl, h0, h1, h2, h3⟩ := Go.Proofs.YtmddcohelcciaaaW.PrintWords.XR.parts4 Try.underlying37 (by kernel_rfl) rfl rfl rfl rfl (by kernel_rfl) (by kernel_rfl) (by kernel_rfl) (by kernel_rfl) h
    obtain ⟨x0, rfl, g0⟩ := Go.Proofs.YtmddcohelcciaaaW.PrintWords.XR.cell_int Try.underlying3 h0
    obtain ⟨x1, rfl⟩ := Go.Proofs.YtmddcohelcciaaaW.PrintWords.XR.cell_bool Try.underlying4 h1
    obtain ⟨x2, rfl, g2⟩ := Go.Proofs.YtmddcohelcciaaaW.PrintWords.XR.cell_string Try.underlying9 h2
    obtain ⟨A3, c3, x3, rfl, q3, r3, g3, i3⟩ := Go.Proofs.YtmddcohelcciaaaW.PrintWords.XR.row_ints Try.underlying35 Try.underlying3 (by kernel_rfl) h3
    exact ⟨⟨x0, x1, x2, x3⟩, Go.Proofs.Ytmddcohelcciaaa.PFnExactReText.k37_mk W _ r3 q3, g0, g2, g3, i3⟩
  obtain ⟨l0, hlen0, w0, hc0, hm0, hw0⟩ := Go.Proofs.YtmddcohelcciaaaW.PrintWords.XR.open_rows Go.Proofs.Ytmddcohelcciaaa.PFnExactReText.k37 (fun x => (Lit.int .i64 x.f0).wf = true ∧ x.f2.size ≤ maxLen ∧ x.f3.length ≤ maxLen ∧ (∀ y ∈ x.f3, (Lit.int .i64 y).wf = true)) Try.underlying22 (by kernel_rfl) el0 h0
  subst hlen0
  clear hA0 hval0 hsz0 hsz
  refine (PFnExactReText.laws_FnExactReText.walk Pure.FnExactReText a0 cap0 l0 W w0 hc0 hm0 hw0).mono fun e W' ⟨he, bel⟩ => ?_
  subst he
  exact ⟨_, rfl, _, _, _, [], _, [], hW', trodAll_mk1 (shut_bool Try.underlying4 _), (trodAll_cons_mk (Below.trod laidOut (by kernel_rfl) (of_decide_eq_true (by kernel_rfl)) k0 bel lt0) trodAll_mk0), rfl, bel.frame _, fun h => by cases h⟩
theorem over : Rows.fnExactReTextRow.holds Try.pinned (OpenSpec.ofChange Rows.fnExactReTextSpec) :=
  OpenClaim.holds_of_wide 4 Try.f4 rfl rfl rfl rfl rfl rfl rfl ⟨rfl, rfl, rfl, rfl, rfl⟩ rfl rfl rfl rfl rfl (by kernel_rfl) Try.func4 (by kernel_rfl)
    (of_decide_eq_true (by kernel_rfl)) (by unfold Func.isWrapper; first | (rw [if_pos (by decide +kernel)]; kernel_rfl) | (rw [if_neg (by decide +kernel)]; exact ⟨rfl, rfl⟩))
    (fun os started H enc _ => lifted os started H enc)
theorem proved : Rows.FnExactReTextSaid := over
#print axioms proved
end Go.Proofs.Ytmddcohelcciaaa.fnExactReText
namespace Go.Proofs.Ytmddcohelcciaaa
/-- The row, under a short name, for the claim. -/
theorem fnExactReText_holds : Rows.FnExactReTextSaid := fnExactReText.proved
end Go.Proofs.Ytmddcohelcciaaa
