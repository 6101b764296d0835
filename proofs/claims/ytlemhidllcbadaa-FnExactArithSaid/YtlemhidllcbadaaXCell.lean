/- A struct of two ints and a text by value: how it is read, and read again. -/
import Derived.Lib.SmallJoins
import Derived.ProofKit
import Derived.ShutString
import Derived.ChangeMaps5
namespace Go.Proofs.Ytlemhidllcbadaa.XC
open Go.ChangeShapes Go.WideShapes Go.ChangeAt Go.RowKit Go.Joins Go.Deep
variable {P : Program} {H : Type} {enc : TypeId × Value → H} {w : World} {base : Nat} {spare : Nat → Bool} {held : Bool}

theorem open_iis {r : Reach} {b0 : Nat} {t : TypeId} {f0 f1 f2 : Field} {v : Value} {d : DataW H} {p : List MemPlace} (hs : P.underlying t = some (.struct #[f0, f1, f2])) (hone : oneCellFields P #[f0, f1, f2] = true) (hC : P.cellsOf t = 3)
    (u0 : P.underlying f0.type = some (.int .i64)) (u1 : P.underlying f1.type = some (.int .i64)) (u2 : P.underlying f2.type = some .string)
    (hv : Value.okWide P w r b0 t v) (h : DataW.Trod enc P w base spare held t v d p) :
    ∃ (a b : Int) (s : ByteArray), v = .agg #[.int .i64 a, .int .i64 b, .string s] ∧ d = .agg [.lit (.int .i64 a), .lit (.int .i64 b), .lit (.string s.data.toList)] ∧ p = [] ∧ (Lit.int .i64 a).wf = true ∧ (Lit.int .i64 b).wf = true ∧ s.size ≤ maxLen := by
  obtain ⟨v0, v1, v2, y0, y1, y2, m, rfl, rfl, rfl, h0, h1, h2⟩ := open_agg3 hs hone hC hv h
  obtain ⟨a, e0, rfl, wa⟩ := DataW.trod_int u0 h0
  obtain ⟨b, e1, rfl, wb⟩ := DataW.trod_int u1 h1
  obtain ⟨s, e2, rfl, ws⟩ := DataW.trod_string u2 h2
  simp at e0 e1 e2
  subst e0 e1 e2
  exact ⟨a, b, s, rfl, rfl, rfl, wa, wb, ws⟩

theorem shut_iis {t : TypeId} {f0 f1 f2 : Field} {a b : Int} {s : ByteArray} (hs : P.underlying t = some (.struct #[f0, f1, f2])) (hone : oneCellFields P #[f0, f1, f2] = true) (hC : P.cellsOf t = 3)
    (u0 : P.underlying f0.type = some (.int .i64)) (u1 : P.underlying f1.type = some (.int .i64)) (u2 : P.underlying f2.type = some .string)
    (wa : (Lit.int .i64 a).wf = true) (wb : (Lit.int .i64 b).wf = true) (ws : s.size ≤ maxLen) :
    DataW.Trod enc P w base spare held t (.agg #[.int .i64 a, .int .i64 b, .string s]) (.agg [.lit (.int .i64 a), .lit (.int .i64 b), .lit (.string s.data.toList)]) [] :=
  shut_agg3 (y0 := (.lit (.int .i64 a), [])) (y1 := (.lit (.int .i64 b), [])) (y2 := (.lit (.string s.data.toList), [])) hs hone hC ⟨1, by simp [DataW.trod, u0, wa]⟩ ⟨1, by simp [DataW.trod, u1, wb]⟩ ⟨1, by simp [DataW.trod, u2, ws]⟩
end Go.Proofs.Ytlemhidllcbadaa.XC
