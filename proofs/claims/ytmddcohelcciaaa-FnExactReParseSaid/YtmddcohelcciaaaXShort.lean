/- Short words for what the printed walks say again and again: a fact, carried to the world that stands. -/
import Derived.Test.YtmddcohelcciaaaWMore
import Derived.Test.YtmddcohelcciaaaWApart
namespace Go.Proofs.YtmddcohelcciaaaW.PrintWords
open Go.RowKit
theorem carH {P Q : Prop} (h : P) (f : P → Q := by (intro h_; repeat (first | (with_reducible first | exact h_ | apply below_alloc | apply pw_below_drewN | apply below_drew1 | refine below_set ?_ (Aside0.out (by assumption))) | exact h_))) : Q := f h
theorem carB {P Q : Prop} (h : P) (f : P → Q := by (intro h_; (with_reducible repeat (first | refine blk_drewN ?_ _ | refine blk_drew ?_ | refine blk_alloc ?_ _)); exact h_)) : Q := f h
theorem carS {P Q : Prop} (h : P) (f : P → Q := by (intro h_; (with_reducible repeat (first | apply Kd.S_alloc | apply Kd.S_drewN | apply Kd.S_drew)); exact h_)) : Q := f h
theorem carA {P Q : Prop} (h : P) (f : P → Q := by (intro h_; first | (rw [add_block]; exact h_) | (show (Addr.add _ _).block ≠ _; rw [add_block]; exact h_) | exact h_)) : Q := f h
end Go.Proofs.YtmddcohelcciaaaW.PrintWords
