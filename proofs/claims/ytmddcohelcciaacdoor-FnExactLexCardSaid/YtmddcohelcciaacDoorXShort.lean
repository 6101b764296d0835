/- Short words for what the printed walks say again and again: a fact, carried to the world that stands. -/
import Derived.Test.YtmddcohelcciaacDoorWMore
import Derived.Test.YtmddcohelcciaacDoorWApart
import Derived.Test.YtmddcohelcciaacDoorXEmp
namespace Go.Proofs.YtmddcohelcciaacDoorW.PrintWords
open Go.RowKit
theorem carH {P Q : Prop} (h : P) (f : P → Q := by (intro h_; repeat (first | (with_reducible first | exact h_ | apply below_alloc | apply pw_below_drewN | apply below_drew1 | refine below_set ?_ (Aside0.out (by assumption))) | exact h_))) : Q := f h
theorem carB {P Q : Prop} (h : P) (f : P → Q := by (intro h_; (with_reducible repeat (first | refine blk_drewN ?_ _ | refine blk_drew ?_ | refine blk_alloc ?_ _)); exact h_)) : Q := f h
theorem carS {P Q : Prop} (h : P) (f : P → Q := by (intro h_; (with_reducible repeat (first | apply Kd.S_alloc | apply Kd.S_drewN | apply Kd.S_drew)); exact h_)) : Q := f h
theorem carA {P Q : Prop} (h : P) (f : P → Q := by (intro h_; first | (rw [add_block]; exact h_) | (show (Addr.add _ _).block ≠ _; rw [add_block]; exact h_) | exact h_)) : Q := f h
theorem carR {P Q : Prop} (h : P) (f : P → Q := by (intro h_; (with_reducible repeat (first | apply Kd.R_alloc | apply Kd.R_drewN | apply Kd.R_drew)); exact h_)) : Q := f h
theorem carF {P N Q : Prop} (h : P) (n : N) (f : P → N → Q := by (intro h_ n_; repeat (first | (with_reducible exact h_) | (with_reducible first | refine blk_drewN ?_ _ | refine blk_drew ?_ | refine blk_alloc ?_ _) | refine blk_far ?_ n_ _ | exact h_))) : Q := f h n
theorem carP {P Q : Prop} (h : P) (f : P → Q := by (intro h_; (repeat (first | (with_reducible exact h_) | (with_reducible first | refine blk_drewN ?_ _ | refine blk_drew ?_ | refine blk_alloc ?_ _) | (apply blk_put) | exact h_)); all_goals rfl)) : Q := f h
theorem dA {p : Prop} [Decidable p] (h : decide p = true := by (first | (with_reducible assumption) | assumption)) : p := of_decide_eq_true h
theorem argK {P : Prop} (h : P := by (first | rfl | (simp; done) | (simp [*]; done) | (simp [Int.tdiv_eq_ediv_of_nonneg]; done) | (simp only [xne_nil, xeq_nil, Bool.not_not]; first | done | rfl))) : P := h
theorem mapK {P : Prop} (h : P := by ((try simp only [List.map_toArray, List.map_cons, List.map_nil]); first | done | rfl | (simp only [List.length_drop, List.length_take]; rfl))) : P := h
theorem retK {P : Prop} (h : P := by (first | rfl | (simp [errW_none, errW_some] <;> rfl) | (simp [*, errW_none, errW_some] <;> rfl) | (simp only [xne_nil, xeq_nil]; first | rfl | (simp [errW_none, errW_some] <;> rfl)))) : P := h
theorem endK {P : Prop} (h : P := by (first | rfl | (simp; done) | (simp [*]; done) | (simp only [xne_nil, xeq_nil]; first | done | rfl | (simp; done)))) : P := h
theorem drK {P : Prop} (h : P := by (repeat (first | exact Drawn0.refl _ | apply Drawn0.step))) : P := h
end Go.Proofs.YtmddcohelcciaacDoorW.PrintWords
