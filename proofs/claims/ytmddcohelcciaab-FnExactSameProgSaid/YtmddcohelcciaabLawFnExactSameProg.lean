-- XPRINTED: written by a program of this session (wip/xprint), which turns the kit's print
import Derived.Test.YtmddcohelcciaabXRows
import Derived.Lib.SmallJoins
import Derived.Test.YtmddcohelcciaabRows
import Derived.Test.YtmddcohelcciaabPFnExactSameProgx7
import Derived.Test.YtmddcohelcciaabPureFnExactSameProg
import Derived.WalkKit
import Derived.ProofKit
import Derived.OpenShut
import Derived.ShutString
import Derived.ChangeOld
import Derived.Below
import Derived.SizedLaws
import Derived.Test.YtmddcohelcciaabWMore
namespace Go.Proofs.Ytmddcohelcciaab.fnExactSameProg
open Go.ChangeShapes Go.WideShapes Go.ChangeAt Go.RowKit
open Go.ChangeMaps (open_string shut_string)
set_option linter.unusedVariables false
theorem own : ownKnob Try.prog.godebug = none := by kernel_rfl
theorem laidOut : laidOutB Try.prog = true := by kernel_rfl
def IsRow (k : IntKind) (w : World) (a : Option Addr) (len cap : Nat) (zs : List Int) : Prop :=
  (a = none ∧ len = 0 ∧ cap = 0 ∧ zs = []) ∨
  ∃ x, a = some x ∧ len ≤ cap ∧ cap ≤ maxLen ∧ zs.length = cap ∧ (∀ i, i < zs.length → w.cell? (x.add i) = some (.int k (zs.getD i 0))) ∧ ∀ n ∈ zs, (Lit.int k n).wf = true
set_option maxRecDepth 100000 in
theorem lifted (os : Os) (started : os.Started) (H : Type) (enc : TypeId × Value → H) :
    ReturnsInHanded {} Try.checked os 5 .any (Rows.fnExactSameProgSpec.pre6 enc Try.prog Try.f5 Rows.fnExactSameProgRow.domain false) (Rows.fnExactSameProgSpec.post enc Try.prog Try.f5 false true false false) := by
  refine returnsInHanded_of_change_sized (C := Try.checked) own started (by kernel_rfl) Try.func5
    (ChangeSpec.witness6 (enc := enc) (C := Try.checked) false ⟨#[], #[.agg #[.slice none 0 0, .slice none 0 0], .agg #[.slice none 0 0, .slice none 0 0]], []⟩ 8 (by kernel_rfl) (by kernel_rfl) (by kernel_rfl) (by kernel_rfl)) ?_
  intro W base args ds gs before hval0 hW hcnd hsz0 _
  have hsz : (DataW.weightsEach Try.prog (Try.f5.params.toList ++ Rows.fnExactSameProgSpec.plain.varTypes Try.prog) (ds ++ gs)).all (· ≤ reachBytes) = true := hsz0
  have hval : ∀ (j : Nat) t v, Try.f5.params[j]? = some t → args[j]? = some v → Value.okWide Try.prog W .any base t v := hval0
  have hW' := hW
  obtain ⟨p, q, hA0, hV, rfl, hfz, hnd⟩ := hW
  have hA : DataW.TrodAll enc Try.prog W 0 (fun _ => true) true Try.f5.params.toList args.toList ds p := hA0
  rw [Try.params5] at hA hval hsz
  obtain ⟨v0, vs0, d0, ds0, p0, q0, hargs, rfl, rfl, h0, r0⟩ := trodAll_cons hA
  obtain ⟨v1, vs1, d1, ds1, p1, q1, rfl, rfl, rfl, h1, r1⟩ := trodAll_cons r0
  obtain ⟨rfl, rfl, rfl⟩ := trodAll_nil r1
  obtain rfl : args = #[v0, v1] := by cases args; simp_all
  obtain ⟨rfl, rfl⟩ := trodVars_none hV
  have k0 := h0
  have lt0 : ∀ x ∈ p0, x.block < W.heap.size := by obtain ⟨m, hm⟩ := k0; exact DataW.trod_lt m _ _ _ hm
  obtain ⟨v0_0, v0_1, z0_0, z0_1, n0, rfl, _, _, h0_0, h0_1⟩ := Go.Joins.open_agg2 Try.underlying27 (by kernel_rfl) (by kernel_rfl) (hval 0 27 v0 rfl rfl) h0
  have el0_0 : ∀ (fuel : Nat) (cs : List Value) (y : DataW H × List MemPlace), DataW.trod enc Try.prog W 0 (fun _ => true) true fuel 58 cs = some y → ∃ x : Go.Proofs.Ytmddcohelcciaab.PFnExactSameProg.S58, Go.Proofs.Ytmddcohelcciaab.PFnExactSameProg.k58.K W x cs ∧ ((Lit.int .i64 x.f0).wf = true ∧ x.f1.size ≤ maxLen ∧ x.f2.size ≤ maxLen ∧ (Lit.int .i64 x.f3).wf = true ∧ x.f4.length ≤ maxLen ∧ (∀ y ∈ x.f4, (Lit.int .i64 y).wf = true)) := by
    intro fuel cs y h
    obtain ⟨v0, v1, v2, v3, v4, n, y0, y1, y2, y3, y4, rfl, h0, h1, h2, h3, h4⟩ := Go.Proofs.YtmddcohelcciaabW.PrintWords.XR.parts5 Try.underlying58 (by kernel_rfl) rfl rfl rfl rfl rfl (by kernel_rfl) (by kernel_rfl) (by kernel_rfl) (by kernel_rfl) (by kernel_rfl) h
    obtain ⟨x0, rfl, g0⟩ := Go.Proofs.YtmddcohelcciaabW.PrintWords.XR.cell_int Try.underlying3 h0
    obtain ⟨x1, rfl, g1⟩ := Go.Proofs.YtmddcohelcciaabW.PrintWords.XR.cell_string Try.underlying9 h1
    obtain ⟨x2, rfl, g2⟩ := Go.Proofs.YtmddcohelcciaabW.PrintWords.XR.cell_string Try.underlying9 h2
    obtain ⟨x3, rfl, g3⟩ := Go.Proofs.YtmddcohelcciaabW.PrintWords.XR.cell_int Try.underlying3 h3
    obtain ⟨A4, c4, x4, rfl, q4, r4, g4, i4⟩ := Go.Proofs.YtmddcohelcciaabW.PrintWords.XR.row_ints Try.underlying41 Try.underlying3 (by kernel_rfl) h4
    exact ⟨⟨x0, x1, x2, x3, x4⟩, Go.Proofs.Ytmddcohelcciaab.PFnExactSameProg.k58_mk W _ r4 q4, g0, g1, g2, g3, g4, i4⟩
  obtain ⟨a0_0, cap0_0, l0_0, rfl, w0_0, hc0_0, hm0_0, hw0_0⟩ := Go.Proofs.YtmddcohelcciaabW.PrintWords.XR.row_any Go.Proofs.Ytmddcohelcciaab.PFnExactSameProg.k58 (fun x => (Lit.int .i64 x.f0).wf = true ∧ x.f1.size ≤ maxLen ∧ x.f2.size ≤ maxLen ∧ (Lit.int .i64 x.f3).wf = true ∧ x.f4.length ≤ maxLen ∧ (∀ y ∈ x.f4, (Lit.int .i64 y).wf = true)) Try.underlying24 (by kernel_rfl) el0_0 h0_0
  have el0_1 : ∀ (fuel : Nat) (cs : List Value) (y : DataW H × List MemPlace), DataW.trod enc Try.prog W 0 (fun _ => true) true fuel 60 cs = some y → ∃ x : Go.Proofs.Ytmddcohelcciaab.PFnExactSameProg.S60, Go.Proofs.Ytmddcohelcciaab.PFnExactSameProg.k60.K W x cs ∧ ((Lit.int .i64 x.f0).wf = true ∧ x.f1.size ≤ maxLen ∧ x.f2.length ≤ maxLen ∧ (∀ y ∈ x.f2, y.size ≤ maxLen) ∧ (Lit.int .i64 x.f3).wf = true ∧ (Lit.int .i64 x.f4).wf = true) := by
    intro fuel cs y h
    obtain ⟨v0, v1, v2, v3, v4, n, y0, y1, y2, y3, y4, rfl, h0, h1, h2, h3, h4⟩ := Go.Proofs.YtmddcohelcciaabW.PrintWords.XR.parts5 Try.underlying60 (by kernel_rfl) rfl rfl rfl rfl rfl (by kernel_rfl) (by kernel_rfl) (by kernel_rfl) (by kernel_rfl) (by kernel_rfl) h
    obtain ⟨x0, rfl, g0⟩ := Go.Proofs.YtmddcohelcciaabW.PrintWords.XR.cell_int Try.underlying3 h0
    obtain ⟨x1, rfl, g1⟩ := Go.Proofs.YtmddcohelcciaabW.PrintWords.XR.cell_string Try.underlying9 h1
    obtain ⟨A2, c2, x2, rfl, q2, r2, g2, i2⟩ := Go.Proofs.YtmddcohelcciaabW.PrintWords.XR.row_strs Try.underlying49 Try.underlying9 (by kernel_rfl) h2
    obtain ⟨x3, rfl, g3⟩ := Go.Proofs.YtmddcohelcciaabW.PrintWords.XR.cell_int Try.underlying3 h3
    obtain ⟨x4, rfl, g4⟩ := Go.Proofs.YtmddcohelcciaabW.PrintWords.XR.cell_int Try.underlying3 h4
    exact ⟨⟨x0, x1, x2, x3, x4⟩, Go.Proofs.Ytmddcohelcciaab.PFnExactSameProg.k60_mk W _ r2 q2, g0, g1, g2, i2, g3, g4⟩
  obtain ⟨a0_1, cap0_1, l0_1, rfl, w0_1, hc0_1, hm0_1, hw0_1⟩ := Go.Proofs.YtmddcohelcciaabW.PrintWords.XR.row_any Go.Proofs.Ytmddcohelcciaab.PFnExactSameProg.k60 (fun x => (Lit.int .i64 x.f0).wf = true ∧ x.f1.size ≤ maxLen ∧ x.f2.length ≤ maxLen ∧ (∀ y ∈ x.f2, y.size ≤ maxLen) ∧ (Lit.int .i64 x.f3).wf = true ∧ (Lit.int .i64 x.f4).wf = true) Try.underlying25 (by kernel_rfl) el0_1 h0_1
  have k1 := h1
  have lt1 : ∀ x ∈ p1, x.block < W.heap.size := by obtain ⟨m, hm⟩ := k1; exact DataW.trod_lt m _ _ _ hm
  obtain ⟨v1_0, v1_1, z1_0, z1_1, n1, rfl, _, _, h1_0, h1_1⟩ := Go.Joins.open_agg2 Try.underlying27 (by kernel_rfl) (by kernel_rfl) (hval 1 27 v1 rfl rfl) h1
  have el1_0 : ∀ (fuel : Nat) (cs : List Value) (y : DataW H × List MemPlace), DataW.trod enc Try.prog W 0 (fun _ => true) true fuel 58 cs = some y → ∃ x : Go.Proofs.Ytmddcohelcciaab.PFnExactSameProg.S58, Go.Proofs.Ytmddcohelcciaab.PFnExactSameProg.k58.K W x cs ∧ ((Lit.int .i64 x.f0).wf = true ∧ x.f1.size ≤ maxLen ∧ x.f2.size ≤ maxLen ∧ (Lit.int .i64 x.f3).wf = true ∧ x.f4.length ≤ maxLen ∧ (∀ y ∈ x.f4, (Lit.int .i64 y).wf = true)) := by
    intro fuel cs y h
    obtain ⟨v0, v1, v2, v3, v4, n, y0, y1, y2, y3, y4, rfl, h0, h1, h2, h3, h4⟩ := Go.Proofs.YtmddcohelcciaabW.PrintWords.XR.parts5 Try.underlying58 (by kernel_rfl) rfl rfl rfl rfl rfl (by kernel_rfl) (by kernel_rfl) (by kernel_rfl) (by kernel_rfl) (by kernel_rfl) h
    obtain ⟨x0, rfl, g0⟩ := Go.Proofs.YtmddcohelcciaabW.PrintWords.XR.cell_int Try.underlying3 h0
    obtain ⟨x1, rfl, g1⟩ := Go.Proofs.YtmddcohelcciaabW.PrintWords.XR.cell_string Try.underlying9 h1
    obtain ⟨x2, rfl, g2⟩ := Go.Proofs.YtmddcohelcciaabW.PrintWords.XR.cell_string Try.underlying9 h2
    obtain ⟨x3, rfl, g3⟩ := Go.Proofs.YtmddcohelcciaabW.PrintWords.XR.cell_int Try.underlying3 h3
    obtain ⟨A4, c4, x4, rfl, q4, r4, g4, i4⟩ := Go.Proofs.YtmddcohelcciaabW.PrintWords.XR.row_ints Try.underlying41 Try.underlying3 (by kernel_rfl) h4
    exact ⟨⟨x0, x1, x2, x3, x4⟩, Go.Proofs.Ytmddcohelcciaab.PFnExactSameProg.k58_mk W _ r4 q4, g0, g1, g2, g3, g4, i4⟩
  obtain ⟨a1_0, cap1_0, l1_0, rfl, w1_0, hc1_0, hm1_0, hw1_0⟩ := Go.Proofs.YtmddcohelcciaabW.PrintWords.XR.row_any Go.Proofs.Ytmddcohelcciaab.PFnExactSameProg.k58 (fun x => (Lit.int .i64 x.f0).wf = true ∧ x.f1.size ≤ maxLen ∧ x.f2.size ≤ maxLen ∧ (Lit.int .i64 x.f3).wf = true ∧ x.f4.length ≤ maxLen ∧ (∀ y ∈ x.f4, (Lit.int .i64 y).wf = true)) Try.underlying24 (by kernel_rfl) el1_0 h1_0
  have el1_1 : ∀ (fuel : Nat) (cs : List Value) (y : DataW H × List MemPlace), DataW.trod enc Try.prog W 0 (fun _ => true) true fuel 60 cs = some y → ∃ x : Go.Proofs.Ytmddcohelcciaab.PFnExactSameProg.S60, Go.Proofs.Ytmddcohelcciaab.PFnExactSameProg.k60.K W x cs ∧ ((Lit.int .i64 x.f0).wf = true ∧ x.f1.size ≤ maxLen ∧ x.f2.length ≤ maxLen ∧ (∀ y ∈ x.f2, y.size ≤ maxLen) ∧ (Lit.int .i64 x.f3).wf = true ∧ (Lit.int .i64 x.f4).wf = true) := by
    intro fuel cs y h
    obtain ⟨v0, v1, v2, v3, v4, n, y0, y1, y2, y3, y4, rfl, h0, h1, h2, h3, h4⟩ := Go.Proofs.YtmddcohelcciaabW.PrintWords.XR.parts5 Try.underlying60 (by kernel_rfl) rfl rfl rfl rfl rfl (by kernel_rfl) (by kernel_rfl) (by kernel_rfl) (by kernel_rfl) (by kernel_rfl) h
    obtain ⟨x0, rfl, g0⟩ := Go.Proofs.YtmddcohelcciaabW.PrintWords.XR.cell_int Try.underlying3 h0
    obtain ⟨x1, rfl, g1⟩ := Go.Proofs.YtmddcohelcciaabW.PrintWords.XR.cell_string Try.underlying9 h1
    obtain ⟨A2, c2, x2, rfl, q2, r2, g2, i2⟩ := Go.Proofs.YtmddcohelcciaabW.PrintWords.XR.row_strs Try.underlying49 Try.underlying9 (by kernel_rfl) h2
    obtain ⟨x3, rfl, g3⟩ := Go.Proofs.YtmddcohelcciaabW.PrintWords.XR.cell_int Try.underlying3 h3
    obtain ⟨x4, rfl, g4⟩ := Go.Proofs.YtmddcohelcciaabW.PrintWords.XR.cell_int Try.underlying3 h4
    exact ⟨⟨x0, x1, x2, x3, x4⟩, Go.Proofs.Ytmddcohelcciaab.PFnExactSameProg.k60_mk W _ r2 q2, g0, g1, g2, i2, g3, g4⟩
  obtain ⟨a1_1, cap1_1, l1_1, rfl, w1_1, hc1_1, hm1_1, hw1_1⟩ := Go.Proofs.YtmddcohelcciaabW.PrintWords.XR.row_any Go.Proofs.Ytmddcohelcciaab.PFnExactSameProg.k60 (fun x => (Lit.int .i64 x.f0).wf = true ∧ x.f1.size ≤ maxLen ∧ x.f2.length ≤ maxLen ∧ (∀ y ∈ x.f2, y.size ≤ maxLen) ∧ (Lit.int .i64 x.f3).wf = true ∧ (Lit.int .i64 x.f4).wf = true) Try.underlying25 (by kernel_rfl) el1_1 h1_1
  clear hA0 hval0 hsz0 hsz
  refine (PFnExactSameProg.laws_FnExactSameProg.walk Pure.FnExactSameProg a0_0 cap0_0 l0_0 a0_1 cap0_1 l0_1 a1_0 cap1_0 l1_0 a1_1 cap1_1 l1_1 W w0_0 hc0_0 hm0_0 hw0_0 w0_1 hc0_1 hm0_1 hw0_1 w1_0 hc1_0 hm1_0 hw1_0 w1_1 hc1_1 hm1_1 hw1_1).mono fun e W' ⟨he, bel⟩ => ?_
  subst he
  exact ⟨_, rfl, _, _, _, [], _, [], hW', trodAll_mk1 (shut_bool Try.underlying4 _), (trodAll_cons_mk (Below.trod laidOut (by kernel_rfl) (of_decide_eq_true (by kernel_rfl)) k0 bel lt0) (trodAll_cons_mk (Below.trod laidOut (by kernel_rfl) (of_decide_eq_true (by kernel_rfl)) k1 bel lt1) trodAll_mk0)), rfl, bel.frame _, fun h => by cases h⟩
theorem over : Rows.fnExactSameProgRow.holds Try.pinned (OpenSpec.ofChange Rows.fnExactSameProgSpec) :=
  OpenClaim.holds_of_wide 5 Try.f5 rfl rfl rfl rfl rfl rfl rfl ⟨rfl, rfl, rfl, rfl, rfl⟩ rfl rfl rfl rfl rfl (by kernel_rfl) Try.func5 (by kernel_rfl)
    (of_decide_eq_true (by kernel_rfl)) (by unfold Func.isWrapper; first | (rw [if_pos (by decide +kernel)]; kernel_rfl) | (rw [if_neg (by decide +kernel)]; exact ⟨rfl, rfl⟩))
    (fun os started H enc _ => lifted os started H enc)
theorem proved : Rows.FnExactSameProgSaid := over
#print axioms proved
end Go.Proofs.Ytmddcohelcciaab.fnExactSameProg
namespace Go.Proofs.Ytmddcohelcciaab
/-- The row, under a short name, for the claim. -/
theorem fnExactSameProg_holds : Rows.FnExactSameProgSaid := fnExactSameProg.proved
end Go.Proofs.Ytmddcohelcciaab
