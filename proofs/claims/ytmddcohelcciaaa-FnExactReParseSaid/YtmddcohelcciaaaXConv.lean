/- Words of this session beside the printed ones: what '[]byte(s)' makes, as a row that is only read. -/
import Derived.Test.YtmddcohelcciaaaWMore
import Derived.Test.YtmddcohelcciaaaWShare
import Derived.Test.YtmddcohelcciaaaWFoot
import Derived.Lib.ConvBytes
namespace Go.Proofs.YtmddcohelcciaaaW.PrintWords
open Go.RowKit
namespace Kd
section
variable {P : Program} {ops : Array Oper} {Q : Exit → Act → World → Prop} {rest : List Oper} {o : Oper} {a : Act}

theorem bytesWorld_block (w : World) (e : TypeId) (s : ByteArray) (k : Nat) (hk : k < w.heap.size) : (Lib.bytesWorld w e s).heap[k]? = w.heap[k]? := Lib.bytesWorld_at_old w e s k hk

theorem bytesWorld_below {w0 W : World} {base : Nat} (HB : Below base w0 W) (hbase : base ≤ W.heap.size) (e : TypeId) (s : ByteArray) : Below base w0 (Lib.bytesWorld W e s) :=
  HB.trans ⟨rfl, rfl, rfl, by rw [Lib.bytesWorld_size]; omega, fun i hi => bytesWorld_block W e s i (by omega)⟩

theorem bytesWorld_grown (W : World) (e : TypeId) (s : ByteArray) : W.grownBy (Lib.bytesWorld W e s) none :=
  ⟨rfl, rfl, rfl, by rw [Lib.bytesWorld_size]; omega, fun k hk _ => bytesWorld_block W e s k hk⟩

theorem V_conv {w0 W : World} (base e : Nat) (hgd : o.guard = none) {N : Tmp} (_hd : o.dst = some N) (src dst : TypeId) (x : Operand) (ho : o.op = .convert src dst x) (s : ByteArray) (hx : a.eval x = .string s)
    (hs : P.underlying src = some .string) (hd : P.underlying dst = some (.slice e)) (he : P.underlying e = some (.int .u8)) (hl : s.size ≤ 9223372036854775807) (HB : Below base w0 W) (hbase : base ≤ W.heap.size)
    (h : ∀ v1 w1, Kd.V (Kd.int .u8) e w1 base (fun k_ => W.heap.size ≤ k_) v1 (bytesOf s) → Below base w0 w1 → W.grownBy w1 none → (∃ b, v1.ownBlock = some b ∧ W.heap.size ≤ b) → wpList P ops Q rest (a.put o.dst v1) w1) : wpList P ops Q (o :: rest) a W := by
  have hrun : (execOp a.eval o).run P W = .ok (.value (.slice (some ⟨W.heap.size, 0, none⟩) s.size (grownCap W s.size 0 e))) (Lib.bytesWorld W e s) := by
    have hr := Lib.run_convert_string_bytes (P := P) W src dst e s hs hd he
    simp [execOp, ho, hx, hr]
  have hlen : (bytesOf s).length = s.size := by simp [bytesOf]
  refine event_run hgd hrun (h _ _ ?_ (bytesWorld_below HB hbase e s) (bytesWorld_grown W e s) ⟨W.heap.size, by simp [Value.ownBlock], Nat.le_refl _⟩)
  have hcap : s.size ≤ grownCap W s.size 0 e := grownCap_ge W s.size 0 e
  rw [← hlen]
  rw [← hlen] at hcap
  refine V_mk hcap ?_
  intro W' hW
  have hb : W'.heap[W.heap.size]? = (Lib.bytesWorld W e s).heap[W.heap.size]? := hW W.heap.size (Nat.le_refl _) (by rw [Lib.bytesWorld_size]; omega)
  refine C_of_reads (d := (0 : Int)) ⟨rfl, by omega, fun _ => ⟨⟨W.heap.size, 0, none⟩, rfl, fun j hj => ?_⟩⟩
  rw [add_plain, World.cell?_of_block (w := Lib.bytesWorld W e s) (a := ⟨W.heap.size, j, none⟩) hb, Lib.bytesWorld_cell W e s j (by omega)]
  have hj' : j < s.data.toList.length := by rw [hlen] at hj; simpa using hj
  simp [bytesOf, List.getD_eq_getElem?_getD, List.getElem?_eq_getElem hj']
end
end Kd
end Go.Proofs.YtmddcohelcciaaaW.PrintWords
