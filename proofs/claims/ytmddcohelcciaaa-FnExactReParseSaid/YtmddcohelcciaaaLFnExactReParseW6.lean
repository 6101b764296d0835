/- the program's ring, and its ReParse. -/
import Derived.Test.YtmddcohelcciaaaLFnExactReParseW5
namespace Go.Proofs.Ytmddcohelcciaaa.PFnExactReParse.H
open Go.RowKit Go.Proofs.YtmddcohelcciaaaW.PrintWords Go.Proofs.YtmddcohelcciaaaW.PrintLast Go.Proofs.YtmddcohelcciaaaW.PrintMore
attribute [local go_sem] max2_int min2_int max_two min_two max_three min_three max_four min_four   -- for this text's walks alone
set_option linter.unusedVariables false
set_option linter.unusedSimpArgs false

theorem ring_q (s : ByteArray) : ∀ n, DoesI 28 s (iWhole s n)
  | 0 => fun P w0 w W g v σ r σ' _ _ h => by cases h
  | n + 1 => whole_q (part_q (rep_q (atom_q (ring_q s n) n) n) n) n
theorem QI.new {w W : World} {g : Nat} {s : ByteArray} (hb : Below w.heap.size w W) (hg : w.heap.size ≤ g) (hbox : W.heap[g]? = some (.cells #[.string s, .int .i64 0, .int .i64 0, .slice none 0 0, .bool false] 55 (0, 0))) :
    QI (fun _ => True) w w W g s 0 0 (.slice none 0 0) [] false := ⟨⟨⟨hbox, hg⟩, Kd.S_nil _ _ _ _ _⟩, ⟨hb.size, fun i hi hn => absurd (.inr trivial) hn⟩, hb⟩
set_option maxHeartbeats 8000000 in
set_option maxRecDepth 100000 in
theorem ReParse_q (n : Nat) (s : ByteArray) (r1 : List S39) (r2 : Bool) (w : World) (h : iReParse n s = some (r1, r2)) :
    Calls Try.prog 14 #[.string s] w fun e w' => ∃ v0_ : Value, e = .returned (.tuple #[v0_, .bool r2]) ∧ Kd.S k39 39 w' w.heap.size (fun _ => True) v0_ r1 ∧ Below w.heap.size w w' := by
  have hu55 := Try.underlying55
  have HB := Aside0.mk (Below.refl w.heap.size w)
  unfold iReParse at h
  have hbt : impl_between.f (s.size : Int) 1 200 = some (decide ((1 : Int) ≤ s.size ∧ (s.size : Int) ≤ 200)) := by
    unfold impl_between.f
    by_cases h1 : (s.size : Int) ≥ 1
    · rw [if_pos h1]
      simp [show (1 : Int) ≤ s.size from h1]
    · rw [if_neg h1]
      simp [show ¬ (1 : Int) ≤ s.size from h1]
  have HBT := Aside0.mk hbt
  clear hbt
  by_cases c1 : (1 : Int) ≤ s.size ∧ (s.size : Int) ≤ 200
  · rw [if_pos c1] at h
    have c1b : decide ((1 : Int) ≤ s.size ∧ (s.size : Int) ≤ 200) = true := decide_eq_true c1
    rw [c1b] at HBT
    clear c1b c1
    obtain ⟨⟨k, a5, d5, L5, wr5⟩, hw, H⟩ := Option.bind_eq_some_iff.mp h
    have HW := Aside0.mk hw
    clear hw h
    dsimp only at H
    go_enter Try.func14, Try.ntmps14
    go_upto_region 5 with (first
      | (go_at_call 20; (with_reducible refine (impl_between.calls (s.size : Int) 1 200 true _ HBT.out).mono ?_); rintro e w' ⟨rfl, ⟨nd, rfl⟩⟩)
      | ((with_reducible refine gate_dst (N := 11) rfl ?_); refine box_event ?hg (N := 11) ?hd (cs := #[.string s, .int .i64 0, .int .i64 0, .slice none 0 0, .bool false]) (t := 55) ?hr ?_; (case hd => rfl); (case hg => rfl); (case hr => first | (go_simp; done) | (go_simp; rfl)); intro g hg w4 hbox hb; have n0_ := Aside0.mk (QI.new (below_step (by repeat (first | (with_reducible first | exact HB.out | apply below_alloc | apply pw_below_drewN | apply below_drew1) | exact HB.out)) hb) (by rw [hg]; exact (below_size (by repeat (first | (with_reducible first | exact HB.out | apply below_alloc | apply pw_below_drewN | apply below_drew1) | exact HB.out)))) hbox); have HQ := n0_; clear n0_ hg hbox hb HB)
      | (go_at_call 28; (with_reducible refine (ring_q s n (fun _ => True) w w _ g _ ⟨0, 0, [], false⟩ k ⟨a5, d5, L5, wr5⟩ (fun _ _ => trivial) HQ.out HW.out).mono ?_); rintro e w9 ⟨rfl, v9, hq⟩; have n0_ := Aside0.mk hq; clear HQ hq; have HQ := n0_; clear n0_))
    try dsimp only at HQ
    obtain ⟨A9, c9, rfl⟩ := Kd.S_slice HQ.out.pi.2
    have hc0 := cellS55_0 HQ.out.pi.1.1
    have hc1 := cellS55_1 HQ.out.pi.1.1
    have hc3 := cellS55_3 HQ.out.pi.1.1
    have hc4 := cellS55_4 HQ.out.pi.1.1
    cases wr5
    · rw [if_neg (by decide)] at H
      by_cases c2 : a5 = (s.size : Int)
      · rw [if_pos c2] at H
        have c2b : (a5 != (s.size : Int)) = false := bne_eq_false_iff_eq.mpr c2
        simp only [Option.some.injEq, Prod.mk.injEq] at H
        obtain ⟨rfl, rfl⟩ := H
        go_wp2
        go_ret2
        exact ⟨_, rfl, Kd.S_mono HQ.out.pi.2 (fun _ _ => trivial), HQ.out.below⟩
      · rw [if_neg c2] at H
        have c2b : (a5 != (s.size : Int)) = true := bne_iff_ne.mpr c2
        simp only [Option.some.injEq, Prod.mk.injEq] at H
        obtain ⟨rfl, rfl⟩ := H
        go_wp2
        go_ret2
        exact ⟨_, rfl, Kd.S_nil _ _ _ _ _, HQ.out.below⟩
    · rw [if_pos rfl] at H
      simp only [Option.some.injEq, Prod.mk.injEq] at H
      obtain ⟨rfl, rfl⟩ := H
      go_wp2
      go_ret2
      exact ⟨_, rfl, Kd.S_nil _ _ _ _ _, HQ.out.below⟩
  · rw [if_neg c1] at h
    have c1b : decide ((1 : Int) ≤ s.size ∧ (s.size : Int) ≤ 200) = false := decide_eq_false c1
    rw [c1b] at HBT
    clear c1b c1
    simp only [Option.some.injEq, Prod.mk.injEq] at h
    obtain ⟨rfl, rfl⟩ := h
    go_enter Try.func14, Try.ntmps14
    go_wp2_with (first
      | (go_at_call 20; (with_reducible refine (impl_between.calls (s.size : Int) 1 200 false _ HBT.out).mono ?_); rintro e w' ⟨rfl, ⟨nd, rfl⟩⟩))
    go_ret2
    exact ⟨_, rfl, Kd.S_nil _ _ _ _ _, by repeat (first | (with_reducible first | exact HB.out | apply below_alloc | apply pw_below_drewN | apply below_drew1) | exact HB.out)⟩
end Go.Proofs.Ytmddcohelcciaaa.PFnExactReParse.H
