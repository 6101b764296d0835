/- A slice of whatever elements that comes in: it reads as a row of them. -/
import Derived.SizedLaws
import Derived.ChangeArms
import Derived.ChangeSlices
import Derived.DataReads
import Derived.Test.YtmddcohelcciaaaWMore
namespace Go.Proofs.YtmddcohelcciaaaW.PrintWords.XR
open Go Go.RowKit Go.ChangeShapes Go.WideShapes Go.Proofs.YtmddcohelcciaaaW.PrintWords
variable {H : Type} {enc : TypeId × Value → H} {P : Program} {W : World} {base : Nat} {spare : Nat → Bool} {held : Bool} {t e : TypeId} {a : Option Addr} {len cap : Nat} {d : DataW H} {ps : List MemPlace}
theorem open_rows {α : Type} (κ : Kd α) (good : α → Prop) (hu : P.underlying t = some (.slice e)) (hc : P.cellsOf e = κ.sz)
    (elem : ∀ (fuel : Nat) (cs : List Value) (y : DataW H × List MemPlace), DataW.trod enc P W base spare held fuel e cs = some y → ∃ x : α, κ.K W x cs ∧ good x)
    (h : DataW.Trod enc P W base spare held t (.slice a len cap) d ps) : ∃ l : List α, l.length = len ∧ Kd.C κ W a l.length l ∧ l.length ≤ cap ∧ l.length ≤ maxLen ∧ ∀ x ∈ l, good x := by
  obtain ⟨fuel, hf⟩ := h
  rcases DataW.trod_slice hu hf with ⟨hcs, _⟩ | ⟨ad, len', cap', elems, rest, n, _, hcs, _, hb, hl, hm, hlen, hel, _, _⟩
  · simp [Value.cells] at hcs
    obtain ⟨rfl, rfl, rfl⟩ := hcs
    exact ⟨[], rfl, ⟨rfl, Nat.zero_le _, fun z => absurd z (by simp)⟩, Nat.zero_le _, Nat.zero_le _, fun x hx => by simp at hx⟩
  · simp [Value.cells] at hcs
    obtain ⟨rfl, rfl, rfl⟩ := hcs
    have each : ∀ i : Fin len, ∃ x : α, good x ∧ ∃ c, κ.K W x c ∧ W.cells? base (ad.add (i.1 * P.cellsOf e)) (P.cellsOf e) = some c := fun i => by
      have h1 := hel i.1 i.2
      rw [List.getElem?_eq_getElem (by omega), Option.bind_eq_some_iff] at h1
      obtain ⟨c, hcell, hy⟩ := h1
      obtain ⟨x, hx, hg⟩ := elem n c _ hy
      exact ⟨x, hg, c, hx, hcell⟩
    have pick : ∃ f : Fin len → α, ∀ i, good (f i) ∧ ∃ c, κ.K W (f i) c ∧ W.cells? base (ad.add (i.1 * P.cellsOf e)) (P.cellsOf e) = some c := ⟨fun i => Classical.choose (each i), fun i => Classical.choose_spec (each i)⟩
    obtain ⟨f, hf'⟩ := pick
    refine ⟨List.ofFn f, List.length_ofFn, ?_, by rw [List.length_ofFn]; exact hl, by rw [List.length_ofFn]; omega, fun x hx => ?_⟩
    · refine ⟨rfl, by rw [List.length_ofFn]; unfold maxLen at hm; omega, fun _ => ⟨ad, rfl, fun j p hp => ?_⟩⟩
      obtain ⟨hj, hp⟩ := List.getElem?_eq_some_iff.1 hp
      rw [List.length_ofFn] at hj
      rw [List.getElem_ofFn] at hp
      obtain ⟨_, c, hK, hcell⟩ := hf' ⟨j, hj⟩
      rw [hp] at hK
      refine ⟨c, κ.K_len hK, hK, fun i u hi => ?_⟩
      rw [hc] at hcell
      obtain ⟨_, hcl, hs⟩ := World.cells?_some hcell
      have hi2 : i < κ.sz := by
        have := (List.getElem?_eq_some_iff.1 hi).1
        omega
      have hx := hs i hi2
      rw [hi] at hx
      rw [← hx, add_add]
    · obtain ⟨i, hi⟩ := (List.mem_ofFn).1 hx
      rw [← hi]
      exact (hf' i).1
/-- A row of whatever elements, out of a field's own cell. -/
theorem row_any {α : Type} (κ : Kd α) (good : α → Prop) {t' e' : TypeId} {fuel : Nat} {v : Value} {y : DataW H × List MemPlace} (hu : P.underlying t' = some (.slice e')) (hc : P.cellsOf e' = κ.sz)
    (elem : ∀ (fuel : Nat) (cs : List Value) (y : DataW H × List MemPlace), DataW.trod enc P W base spare held fuel e' cs = some y → ∃ x : α, κ.K W x cs ∧ good x)
    (h : DataW.trod enc P W base spare held fuel t' [v] = some y) : ∃ (A : Option Addr) (c : Nat) (l : List α), v = .slice A l.length c ∧ Kd.C κ W A l.length l ∧ l.length ≤ c ∧ l.length ≤ maxLen ∧ ∀ x ∈ l, good x := by
  rcases DataW.trod_slice hu h with ⟨hv, _⟩ | ⟨ad, len', cap', elems, rest, n, _, hv, _, hb, hl, hm, hlen, hel, _, _⟩
  · simp at hv
    exact ⟨none, 0, [], hv, ⟨rfl, Nat.zero_le _, fun z => absurd z (by simp)⟩, Nat.zero_le _, Nat.zero_le _, fun x hx => by simp at hx⟩
  · simp at hv
    subst hv
    have hh : DataW.Trod enc P W base spare held t' (.slice (some ad) len' cap') y.1 y.2 := ⟨fuel, by simpa [Value.cells] using h⟩
    obtain ⟨l, e1, h1, h2, h3, h4⟩ := open_rows κ good hu hc elem hh
    exact ⟨some ad, cap', l, by rw [e1], h1, h2, h3, h4⟩
theorem row_ints {k : IntKind} {e' : TypeId} {t' : TypeId} {fuel : Nat} {v : Value} {y : DataW H × List MemPlace} (hu : P.underlying t' = some (.slice e')) (he : P.underlying e' = some (.int k)) (hc : P.cellsOf e' = 1)
    (h : DataW.trod enc P W base spare held fuel t' [v] = some y) : ∃ (A : Option Addr) (c : Nat) (l : List Int), v = .slice A l.length c ∧ Kd.C (Kd.int k) W A l.length l ∧ l.length ≤ c ∧ l.length ≤ maxLen ∧ ∀ x ∈ l, (Lit.int k x).wf = true :=
  row_any (Kd.int k) (fun x => (Lit.int k x).wf = true) hu (by rw [hc]; rfl) (fun fuel cs y hy => by
    obtain ⟨x, rfl, _, hx⟩ := DataW.trod_int he hy
    exact ⟨x, rfl, hx⟩) h
theorem row_strs {e' : TypeId} {t' : TypeId} {fuel : Nat} {v : Value} {y : DataW H × List MemPlace} (hu : P.underlying t' = some (.slice e')) (he : P.underlying e' = some .string) (hc : P.cellsOf e' = 1)
    (h : DataW.trod enc P W base spare held fuel t' [v] = some y) : ∃ (A : Option Addr) (c : Nat) (l : List ByteArray), v = .slice A l.length c ∧ Kd.C Kd.string W A l.length l ∧ l.length ≤ c ∧ l.length ≤ maxLen ∧ ∀ x ∈ l, x.size ≤ maxLen :=
  row_any Kd.string (fun x => x.size ≤ maxLen) hu (by rw [hc]; rfl) (fun fuel cs y hy => by
    obtain ⟨x, rfl, _, hx⟩ := DataW.trod_string he hy
    exact ⟨x, rfl, hx⟩) h
theorem cell_int {k : IntKind} {t' : TypeId} {fuel : Nat} {v : Value} {y : DataW H × List MemPlace} (he : P.underlying t' = some (.int k)) (h : DataW.trod enc P W base spare held fuel t' [v] = some y) : ∃ x : Int, v = .int k x ∧ (Lit.int k x).wf = true := by
  obtain ⟨x, e0, _, hx⟩ := DataW.trod_int he h
  simp at e0
  exact ⟨x, e0, hx⟩
theorem cell_bool {t' : TypeId} {fuel : Nat} {v : Value} {y : DataW H × List MemPlace} (he : P.underlying t' = some .bool) (h : DataW.trod enc P W base spare held fuel t' [v] = some y) : ∃ x : Bool, v = .bool x := by
  obtain ⟨x, e0, _⟩ := DataW.trod_bool he h
  simp at e0
  exact ⟨x, e0⟩
theorem cell_string {t' : TypeId} {fuel : Nat} {v : Value} {y : DataW H × List MemPlace} (he : P.underlying t' = some .string) (h : DataW.trod enc P W base spare held fuel t' [v] = some y) : ∃ x : ByteArray, v = .string x ∧ x.size ≤ maxLen := by
  obtain ⟨x, e0, _, hx⟩ := DataW.trod_string he h
  simp at e0
  exact ⟨x, e0, hx⟩
theorem parts4 {f0 f1 f2 f3 : Field} {fuel : Nat} {cs : List Value} {y : DataW H × List MemPlace} (hs : P.underlying e = some (.struct #[f0, f1, f2, f3])) (hC : P.cellsOf e = 4)
    (o0 : f0.offset = 0) (o1 : f1.offset = 1) (o2 : f2.offset = 2) (o3 : f3.offset = 3) (c0 : P.cellsOf f0.type = 1) (c1 : P.cellsOf f1.type = 1) (c2 : P.cellsOf f2.type = 1) (c3 : P.cellsOf f3.type = 1)
    (h : DataW.trod enc P W base spare held fuel e cs = some y) : ∃ (v0 v1 v2 v3 : Value) (n : Nat) (y0 y1 y2 y3 : DataW H × List MemPlace), cs = [v0, v1, v2, v3] ∧ DataW.trod enc P W base spare held n f0.type [v0] = some y0 ∧ DataW.trod enc P W base spare held n f1.type [v1] = some y1 ∧ DataW.trod enc P W base spare held n f2.type [v2] = some y2 ∧ DataW.trod enc P W base spare held n f3.type [v3] = some y3 := by
  obtain ⟨xs, n, rfl, _, hl, hx, hf⟩ := DataW.trod_struct hs h
  rw [hC] at hl
  have hx4 : xs.length = 4 := hx
  obtain ⟨v0, v1, v2, v3, rfl⟩ : ∃ v0 v1 v2 v3, cs = [v0, v1, v2, v3] := by
    match cs, hl with
    | [a, b, c, d], _ => exact ⟨a, b, c, d, rfl⟩
  obtain ⟨y0, y1, y2, y3, rfl⟩ : ∃ v0 v1 v2 v3, xs = [v0, v1, v2, v3] := by
    match xs, hx4 with
    | [a, b, c, d], _ => exact ⟨a, b, c, d, rfl⟩
  have h0 := hf 0 f0 rfl
  have h1 := hf 1 f1 rfl
  have h2 := hf 2 f2 rfl
  have h3 := hf 3 f3 rfl
  rw [o0, c0] at h0
  rw [o1, c1] at h1
  rw [o2, c2] at h2
  rw [o3, c3] at h3
  exact ⟨v0, v1, v2, v3, n, y0, y1, y2, y3, rfl, h0, h1, h2, h3⟩
theorem parts5 {f0 f1 f2 f3 f4 : Field} {fuel : Nat} {cs : List Value} {y : DataW H × List MemPlace} (hs : P.underlying e = some (.struct #[f0, f1, f2, f3, f4])) (hC : P.cellsOf e = 5)
    (o0 : f0.offset = 0) (o1 : f1.offset = 1) (o2 : f2.offset = 2) (o3 : f3.offset = 3) (o4 : f4.offset = 4) (c0 : P.cellsOf f0.type = 1) (c1 : P.cellsOf f1.type = 1) (c2 : P.cellsOf f2.type = 1) (c3 : P.cellsOf f3.type = 1) (c4 : P.cellsOf f4.type = 1)
    (h : DataW.trod enc P W base spare held fuel e cs = some y) : ∃ (v0 v1 v2 v3 v4 : Value) (n : Nat) (y0 y1 y2 y3 y4 : DataW H × List MemPlace), cs = [v0, v1, v2, v3, v4] ∧ DataW.trod enc P W base spare held n f0.type [v0] = some y0 ∧ DataW.trod enc P W base spare held n f1.type [v1] = some y1 ∧ DataW.trod enc P W base spare held n f2.type [v2] = some y2 ∧ DataW.trod enc P W base spare held n f3.type [v3] = some y3 ∧ DataW.trod enc P W base spare held n f4.type [v4] = some y4 := by
  obtain ⟨xs, n, rfl, _, hl, hx, hf⟩ := DataW.trod_struct hs h
  rw [hC] at hl
  have hx5 : xs.length = 5 := hx
  obtain ⟨v0, v1, v2, v3, v4, rfl⟩ : ∃ v0 v1 v2 v3 v4, cs = [v0, v1, v2, v3, v4] := by
    match cs, hl with
    | [a, b, c, d, e], _ => exact ⟨a, b, c, d, e, rfl⟩
  obtain ⟨y0, y1, y2, y3, y4, rfl⟩ : ∃ v0 v1 v2 v3 v4, xs = [v0, v1, v2, v3, v4] := by
    match xs, hx5 with
    | [a, b, c, d, e], _ => exact ⟨a, b, c, d, e, rfl⟩
  have h0 := hf 0 f0 rfl
  have h1 := hf 1 f1 rfl
  have h2 := hf 2 f2 rfl
  have h3 := hf 3 f3 rfl
  have h4 := hf 4 f4 rfl
  rw [o0, c0] at h0
  rw [o1, c1] at h1
  rw [o2, c2] at h2
  rw [o3, c3] at h3
  rw [o4, c4] at h4
  exact ⟨v0, v1, v2, v3, v4, n, y0, y1, y2, y3, y4, rfl, h0, h1, h2, h3, h4⟩
end Go.Proofs.YtmddcohelcciaaaW.PrintWords.XR
