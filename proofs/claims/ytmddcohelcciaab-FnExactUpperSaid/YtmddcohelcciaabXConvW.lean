/- What '[]byte(s)' makes, as a row that is written: its block has a frozen place behind its cells. -/
import Derived.Test.YtmddcohelcciaabXConv
namespace Go.Proofs.YtmddcohelcciaabW.PrintWords
open Go.RowKit
namespace Kd
/-- A row of bytes of the call's own, at block g, whose first place behind the block's cells is frozen. -/
def RB (d : Kd Int) (e : Nat) (w : World) (base : Nat) (_ok : Nat → Prop) (v : Value) (xs : List Int) : Prop :=
  d = Kd.int .u8 ∧ ∃ (g cap m : Nat) (cs : Array Value), v = .slice (some ⟨g, 0, none⟩) xs.length cap ∧ base ≤ g ∧ w.heap[g]? = some (.cells cs e (m, m + 1)) ∧ xs.length ≤ m ∧ xs.length ≤ cap ∧ xs.length ≤ 9223372036854775807 ∧ ∀ (j : Nat) (h : j < xs.length), cs[j]? = some (.int .u8 xs[j])
section
variable {d : Kd Int} {e base base' n cap g : Nat} {ok : Nat → Prop} {w w1 : World} {v : Value} {xs : List Int}
theorem RB_step (h : RB d e w base ok v xs) (hm : ∀ k, k < w.heap.size → w1.heap[k]? = w.heap[k]?) : RB d e w1 base ok v xs := by
  obtain ⟨hd, g, cap, m, cs, hv, hb, hh, r⟩ := h
  exact ⟨hd, g, cap, m, cs, hv, hb, (hm g (Array.getElem?_eq_some_iff.1 hh).1).trans hh, r⟩
theorem RB_below (h : RB d e w base ok v xs) (hb : Below w.heap.size w w1) : RB d e w1 base ok v xs := RB_step h (fun k hk => hb.block k hk)
theorem RB_alloc (h : RB d e w base ok v xs) (o : Obj) : RB d e (w.alloc o) base ok v xs := RB_below h (below_alloc (Below.refl _ _) o)
theorem RB_drew (h : RB d e w base ok v xs) : RB d e w.drew base ok v xs := RB_below h (below_drew (Below.refl _ _))
theorem RB_drewN (h : RB d e w base ok v xs) (m : Nat) : RB d e (w.drewN m) base ok v xs := RB_below h (pw_below_drewN (Below.refl _ _) m)
theorem RB_lower (h : RB d e w base ok v xs) (hb : base' ≤ base) : RB d e w base' ok v xs := by
  obtain ⟨hd, g, cap, m, cs, hv, hbase, r⟩ := h
  exact ⟨hd, g, cap, m, cs, hv, Nat.le_trans hb hbase, r⟩
theorem RB_slice (h : RB d e w base ok v xs) : ∃ A c, v = .slice A xs.length c := by
  obtain ⟨hd, g, cap, m, cs, hv, r⟩ := h
  exact ⟨_, _, hv⟩
theorem RB_form (h : RB d e w base ok v xs) (_hp : 0 < xs.length) : ∃ g cap, v = .slice (some ⟨g, 0, none⟩) xs.length cap ∧ base ≤ g ∧ g < w.heap.size ∧ ∃ cells fr, w.heap[g]? = some (.cells cells e fr) := by
  obtain ⟨hd, g, cap, m, cs, hv, hb, hh, r⟩ := h
  exact ⟨g, cap, hv, hb, (Array.getElem?_eq_some_iff.1 hh).1, cs, _, hh⟩
theorem RB_cells (h : RB d e w base ok (.slice (some ⟨g, 0, none⟩) n cap) xs) : ∃ (m : Nat) (cs : Array Value), n = xs.length ∧ w.heap[g]? = some (.cells cs e (m, m + 1)) ∧ xs.length ≤ m ∧ xs.length ≤ cap ∧ xs.length ≤ 9223372036854775807 ∧ ∀ (j : Nat) (h : j < xs.length), cs[j]? = some (.int .u8 xs[j]) := by
  obtain ⟨_, g', cap', m, cs, hv, hb, hh, hm, hc, hx, r⟩ := h
  injection hv with h1 h2 h3
  injection h1 with h1
  injection h1 with h1
  subst h1 h3
  exact ⟨m, cs, h2, hh, hm, hc, hx, r⟩
theorem RB_reads' {A : Option Addr} {c : Nat} (h : RB d e w base ok (.slice A n c) xs) : n = xs.length ∧ n ≤ c ∧ d.C w A xs.length xs := by
  have h' := h
  obtain ⟨hd, g, cap', m, cs, hv, hb, hh, hm, hc, hx, r⟩ := h
  injection hv with h1 h2 h3
  subst h1 h3 hd
  refine ⟨h2, by omega, C_of_reads (d := (0 : Int)) ⟨rfl, hx, fun _ => ⟨⟨g, 0, none⟩, rfl, fun j hj => ?_⟩⟩⟩
  rw [add_plain, cell_of_row w g j cs e (m, m + 1) hh, r j hj, List.getD_eq_getElem?_getD, List.getElem?_eq_getElem hj]
  rfl
theorem RB_celln (z : Int) (h : RB d e w base ok (.slice (some ⟨g, 0, none⟩) n cap) xs) (i : Int) (h0 : 0 ≤ i) (hi : i < n) : w.cell? ⟨g, i.toNat, none⟩ = some (.int .u8 (rdOf z xs i)) ∧ w.frozen? ⟨g, i.toNat, none⟩ = false := by
  obtain ⟨m, cs, hn, hh, hm, _, _, r⟩ := RB_cells h
  have hj : i.toNat < xs.length := by omega
  refine ⟨?_, ?_⟩
  · rw [cell_of_row w g i.toNat cs e (m, m + 1) hh, r _ hj]
    unfold rdOf
    rw [List.getD_eq_getElem?_getD, List.getElem?_eq_getElem hj]
    rfl
  · simp [World.frozen?, hh]
    omega
theorem RB_putg (h : RB d e w base ok (.slice (some ⟨g, 0, none⟩) n cap) xs) (i : Int) (x : Int) : RB d e (w.setCell ⟨g, i.toNat, none⟩ (.int .u8 x)) base ok (.slice (some ⟨g, 0, none⟩) n cap) (xs.set i.toNat x) ∧ w.grownBy (w.setCell ⟨g, i.toNat, none⟩ (.int .u8 x)) (some g) := by
  have h' := h
  obtain ⟨hd, g', cap', m', cs', hv, hb, _⟩ := h'
  obtain ⟨m, cs, rfl, hh, hm, hc, hx, r⟩ := RB_cells h
  injection hv with e1 _ _
  injection e1 with e1
  injection e1 with e1
  refine ⟨⟨hd, g, cap, m, cs.setIfInBounds i.toNat (.int .u8 x), by rw [List.length_set], by rw [e1]; exact hb, ?_, by rw [List.length_set]; exact hm, by rw [List.length_set]; exact hc, by rw [List.length_set]; exact hx, fun j hj => ?_⟩, ?_⟩
  · simp [World.setCell, Array.getElem?_modify, hh]
  · rw [List.length_set] at hj
    rw [Array.getElem?_setIfInBounds, List.getElem_set]
    by_cases hij : i.toNat = j
    · rw [if_pos hij, if_pos hij, if_pos (by
        have := r j hj
        have := (Array.getElem?_eq_some_iff.1 this).1
        omega)]
    · rw [if_neg hij, if_neg hij]
      exact r j hj
  · exact ⟨rfl, rfl, rfl, by simp [World.setCell], fun k _ hk => Below.heap_setCell w _ _ k (by rintro rfl; exact hk rfl)⟩
theorem RB_string {P : Program} {src dst t : TypeId} (hs : P.underlying src = some (.slice t)) (he : P.underlying t = some (.int .u8)) (hd : P.underlying dst = some .string)
    (h : RB d e w base ok v xs) : (convert src dst v).run P w = .ok (.string (strOfNums xs)) w := by
  obtain ⟨hk, g, cap, m, cs, rfl, hb, hh, hm, hc, hx, r⟩ := h
  refine run_convert_bytes_arg w src t hs he g 0 xs.length cap xs rfl (fun i hi => ?_) dst hd
  rw [Nat.zero_add, cell_of_row w g i cs e (m, m + 1) hh, r i hi, List.getD_eq_getElem?_getD, List.getElem?_eq_getElem hi]
  rfl
end
section
variable {P : Program} {ops : Array Oper} {Q : Exit → Act → World → Prop} {rest : List Oper} {o : Oper} {a : Act}
theorem RB_conv {w0 W : World} (base e : Nat) (hgd : o.guard = none) {N : Tmp} (_hd : o.dst = some N) (src dst : TypeId) (x : Operand) (ho : o.op = .convert src dst x) (s : ByteArray) (hx : a.eval x = .string s)
    (hs : P.underlying src = some .string) (hd : P.underlying dst = some (.slice e)) (he : P.underlying e = some (.int .u8)) (hl : s.size ≤ 9223372036854775807) (HB : Below base w0 W) (hbase : base ≤ W.heap.size)
    (h : ∀ v1 w1, RB (Kd.int .u8) e w1 W.heap.size (fun _ => True) v1 (bytesOf s) → Below base w0 w1 → W.grownBy w1 none → (∃ b, v1.ownBlock = some b ∧ W.heap.size ≤ b) → wpList P ops Q rest (a.put o.dst v1) w1) : wpList P ops Q (o :: rest) a W := by
  have hrun : (execOp a.eval o).run P W = .ok (.value (.slice (some ⟨W.heap.size, 0, none⟩) s.size (grownCap W s.size 0 e))) (Lib.bytesWorld W e s) := by
    have hr := Lib.run_convert_string_bytes (P := P) W src dst e s hs hd he
    simp [execOp, ho, hx, hr]
  have hlen : (bytesOf s).length = s.size := by simp [bytesOf]
  have hcap : s.size ≤ grownCap W s.size 0 e := grownCap_ge W s.size 0 e
  have hdat : s.data.size = s.size := rfl
  refine event_run hgd hrun (h _ _ ?_ (bytesWorld_below HB hbase e s) (bytesWorld_grown W e s) ⟨W.heap.size, by simp [Value.ownBlock], Nat.le_refl _⟩)
  refine ⟨rfl, W.heap.size, grownCap W s.size 0 e, (Lib.bytesCells W e s).size, Lib.bytesCells W e s, by rw [hlen], Nat.le_refl _, Lib.bytesWorld_at_new W e s, ?_, by rw [hlen]; exact hcap, by rw [hlen]; exact hl, fun j hj => ?_⟩
  · rw [hlen]
    simp only [Lib.bytesCells, Array.size_append, Array.size_map]
    omega
  · rw [hlen] at hj
    simp only [Lib.bytesCells]
    rw [Array.getElem?_append_left (by rw [Array.size_map]; exact hj), Array.getElem?_map, Array.getElem?_eq_getElem hj]
    simp [bytesOf]
end
end Kd
end Go.Proofs.YtmddcohelcciaabW.PrintWords
