/- l2atom. -/
import Derived.Test.YtmddcohelcciaaaLFnExactReParseV3
namespace Go.Proofs.Ytmddcohelcciaaa.PFnExactReParse.H
open Go.RowKit Go.Proofs.YtmddcohelcciaaaW.PrintWords Go.Proofs.YtmddcohelcciaaaW.PrintLast Go.Proofs.YtmddcohelcciaaaW.PrintMore
attribute [local go_sem] max2_int min2_int max_two min_two max_three min_three max_four min_four   -- for this text's walks alone
set_option linter.unusedVariables false
set_option linter.unusedSimpArgs false


theorem QS.kidsE {P : Nat → Prop} {w0 w W W1 : World} {g : Nat} {s : ByteArray} {at_ : Int} {v kv : Value} {L : List S39} {wr : Bool} {ks : List Int} (h : QS P w0 w W g s at_ v L wr) (hP : ∀ k, w.heap.size ≤ k → P k) (ho : (Kd.int .i64).R 3 W1 W.heap.size (fun _ => True) kv ks) (hb : Below W.heap.size W W1) : QKS P w0 w W1 g s at_ v L wr kv ks := by
  refine ⟨?_, Kd.R_lower (Kd.R_reok rfl ho (fun k hk => ?_)) h.le, h.kept.below hb, below_step h.below hb⟩
  · exact (h.pi.bound.below hb).mono (fun k hk => ⟨hk.1, fun e => by have := Kd.R_base ho k e.symm; have := hk.2; omega⟩)
  · have hb2 := Kd.R_base ho k hk
    exact ⟨hP _ (Nat.le_trans h.kept.1 hb2), fun e => by have := h.pi.lt; omega⟩
def spec_l2atom.T30 : Bool × List (List Nat × List Nat) := (true, [([], []), ([], []), ([1], [1]), ([2], [2]), ([3], [3]), ([], []), ([5], [5]), ([6], [6]), ([7], [7]), ([8], [8]), ([4, 9], [4, 9]), ([10], [10]), ([0, 11, 11], [0, 11]), ([12, 12, 0, 1, 2, 3, 4, 5, 6, 7, 8, 9, 10, 11, 12], [12])])
def spec_l2atom.B30 : List Nat := [0, 0, 2, 6, 14, 0, 32, 96, 224, 480, 1022, 2046, 4095, 8191]
theorem spec_l2atom.tab30 : rtab .any (opsOf Try.f53 30) = spec_l2atom.T30 := by kernel_rfl
theorem spec_l2atom.bits30 : waitsOk spec_l2atom.T30.2 spec_l2atom.B30 = true := by kernel_rfl
set_option maxHeartbeats 8000000 in
set_option maxRecDepth 100000 in
theorem satom_q {s : ByteArray} {Al : Int → SS → Option (Int × SS)} (hA : ∀ d, DoesS 27 s d (Al d)) (n : Nat) (deep : Int) : DoesS 53 s deep (sAtom s Al n deep) := by
  intro P w0 w W g v σ r σ' hP hQ h
  have hu39 := Try.underlying39
  obtain ⟨a2, L2, wr2⟩ := σ
  have HQ := Aside0.mk hQ
  clear hQ
  dsimp only at HQ
  unfold sAtom at h
  obtain ⟨c, hp, H⟩ := Option.bind_eq_some_iff.mp h
  have HP := Aside0.mk hp
  clear h hp
  dsimp only at H HP
  go_enter Try.func53, Try.ntmps53
  by_cases cm : sMore s a2 = true
  · rw [if_pos cm] at H
    obtain ⟨b, hh, H⟩ := Option.bind_eq_some_iff.mp H
    have HH := Aside0.mk (show spec_l2has.f 10 ⟨#[41, 124, 42, 43, 63, 93]⟩ c = some b from hh)
    clear hh
    cases b
    · rw [if_neg (by decide)] at H
      by_cases c40 : c = 40
      · subst c40
        rw [if_pos rfl] at H
        by_cases c20 : deep = 20
        · subst c20
          rw [if_pos rfl] at H
          simp only [Option.some.injEq, Prod.mk.injEq] at H
          obtain ⟨rfl, rfl⟩ := H
          go_wp2_with (first
            | (go_at_call 41; (with_reducible refine (peek_q (by repeat (first | (with_reducible first | exact HQ.out | apply QS.drewN | apply QS.set1) | exact HQ.out)) HP.out).mono ?_); rintro e w9 ⟨rfl, hq⟩; have n0_ := Aside0.mk hq; clear HQ hq; have HQ := n0_; clear n0_; have hc0 := cellS50_0 HQ.out.pi.1.1; have hc1 := cellS50_1 HQ.out.pi.1.1; have hc2 := cellS50_2 HQ.out.pi.1.1; have hc3 := cellS50_3 HQ.out.pi.1.1; have hf1 := blk_frozen HQ.out.pi.1.1 1; have hf3 := blk_frozen HQ.out.pi.1.1 3)
            | (go_at_call 40; (with_reducible refine (more_q (by repeat (first | (with_reducible first | exact HQ.out | apply QS.drewN | apply QS.set1) | exact HQ.out))).mono ?_); rintro e w9 ⟨rfl, hq⟩; have n0_ := Aside0.mk hq; clear HQ hq; have HQ := n0_; clear n0_; have hc0 := cellS50_0 HQ.out.pi.1.1; have hc1 := cellS50_1 HQ.out.pi.1.1; have hc2 := cellS50_2 HQ.out.pi.1.1; have hc3 := cellS50_3 HQ.out.pi.1.1; have hf1 := blk_frozen HQ.out.pi.1.1 1; have hf3 := blk_frozen HQ.out.pi.1.1 3)
            | (go_at_call 52; (with_reducible refine (spec_l2has.calls 10 ⟨#[41, 124, 42, 43, 63, 93]⟩ _ false _ HH.out).mono ?_); rintro e w' ⟨rfl, ⟨nd, rfl⟩⟩))
          go_ret
          exact ⟨rfl, _, (QS.set3 (by repeat (first | (with_reducible first | exact HQ.out | apply QS.drewN | apply QS.set1) | exact HQ.out)) true)⟩
        · rw [if_neg c20] at H
          have c20b : (deep == 20) = false := beq_eq_false_iff_ne.mpr c20
          obtain ⟨⟨k1, a5, L5, wr5⟩, hal, H⟩ := Option.bind_eq_some_iff.mp H
          obtain ⟨d6, hp6, H⟩ := Option.bind_eq_some_iff.mp H
          have HAL := Aside0.mk hal
          have HP2 := Aside0.mk hp6
          clear hal hp6
          simp only [Option.some.injEq, Prod.mk.injEq] at H
          obtain ⟨rfl, rfl⟩ := H
          dsimp only at HP2
          by_cases c41 : d6 = 41
          · subst c41
            go_wp2_with (first
              | (go_at_call 41; (with_reducible refine (peek_q (by repeat (first | (with_reducible first | exact HQ.out | apply QS.drewN | apply QS.set1) | exact HQ.out)) HP.out).mono ?_); rintro e w9 ⟨rfl, hq⟩; have n0_ := Aside0.mk hq; clear HQ hq; have HQ := n0_; clear n0_; have hc0 := cellS50_0 HQ.out.pi.1.1; have hc1 := cellS50_1 HQ.out.pi.1.1; have hc2 := cellS50_2 HQ.out.pi.1.1; have hc3 := cellS50_3 HQ.out.pi.1.1; have hf1 := blk_frozen HQ.out.pi.1.1 1; have hf3 := blk_frozen HQ.out.pi.1.1 3)
              | (go_at_call 40; (with_reducible refine (more_q (by repeat (first | (with_reducible first | exact HQ.out | apply QS.drewN | apply QS.set1) | exact HQ.out))).mono ?_); rintro e w9 ⟨rfl, hq⟩; have n0_ := Aside0.mk hq; clear HQ hq; have HQ := n0_; clear n0_; have hc0 := cellS50_0 HQ.out.pi.1.1; have hc1 := cellS50_1 HQ.out.pi.1.1; have hc2 := cellS50_2 HQ.out.pi.1.1; have hc3 := cellS50_3 HQ.out.pi.1.1; have hf1 := blk_frozen HQ.out.pi.1.1 1; have hf3 := blk_frozen HQ.out.pi.1.1 3)
              | (go_at_call 52; (with_reducible refine (spec_l2has.calls 10 ⟨#[41, 124, 42, 43, 63, 93]⟩ _ false _ HH.out).mono ?_); rintro e w' ⟨rfl, ⟨nd, rfl⟩⟩)
              | (go_at_call 27; (with_reducible refine (hA (wrap64 (deep + 1)) P w0 w _ g _ ⟨wrap64 (a2 + 1), L2, wr2⟩ k1 ⟨a5, L5, wr5⟩ hP (by repeat (first | (with_reducible first | exact HQ.out | apply QS.drewN | apply QS.set1) | exact HQ.out)) HAL.out).mono ?_); rintro e w9 ⟨rfl, v9, hq⟩; have n0_ := Aside0.mk hq; clear HQ hq; have HQ := n0_; clear n0_; have hc0 := cellS50_0 HQ.out.pi.1.1; have hc1 := cellS50_1 HQ.out.pi.1.1; have hc2 := cellS50_2 HQ.out.pi.1.1; have hc3 := cellS50_3 HQ.out.pi.1.1; have hf1 := blk_frozen HQ.out.pi.1.1 1; have hf3 := blk_frozen HQ.out.pi.1.1 3)
              | (go_at_call 41; (with_reducible refine (peek_q HQ.out HP2.out).mono ?_); rintro e w9 ⟨rfl, hq⟩; have n0_ := Aside0.mk hq; clear HQ hq; have HQ := n0_; clear n0_; have hc0 := cellS50_0 HQ.out.pi.1.1; have hc1 := cellS50_1 HQ.out.pi.1.1; have hc2 := cellS50_2 HQ.out.pi.1.1; have hc3 := cellS50_3 HQ.out.pi.1.1; have hf1 := blk_frozen HQ.out.pi.1.1 1; have hf3 := blk_frozen HQ.out.pi.1.1 3))
            go_ret
            exact ⟨rfl, _, HQ.out.set1 _⟩
          · have c41c : (d6 != 41) = true := bne_iff_ne.mpr c41
            rw [if_neg c41]
            go_wp2_with (first
              | (go_at_call 41; (with_reducible refine (peek_q (by repeat (first | (with_reducible first | exact HQ.out | apply QS.drewN | apply QS.set1) | exact HQ.out)) HP.out).mono ?_); rintro e w9 ⟨rfl, hq⟩; have n0_ := Aside0.mk hq; clear HQ hq; have HQ := n0_; clear n0_; have hc0 := cellS50_0 HQ.out.pi.1.1; have hc1 := cellS50_1 HQ.out.pi.1.1; have hc2 := cellS50_2 HQ.out.pi.1.1; have hc3 := cellS50_3 HQ.out.pi.1.1; have hf1 := blk_frozen HQ.out.pi.1.1 1; have hf3 := blk_frozen HQ.out.pi.1.1 3)
              | (go_at_call 40; (with_reducible refine (more_q (by repeat (first | (with_reducible first | exact HQ.out | apply QS.drewN | apply QS.set1) | exact HQ.out))).mono ?_); rintro e w9 ⟨rfl, hq⟩; have n0_ := Aside0.mk hq; clear HQ hq; have HQ := n0_; clear n0_; have hc0 := cellS50_0 HQ.out.pi.1.1; have hc1 := cellS50_1 HQ.out.pi.1.1; have hc2 := cellS50_2 HQ.out.pi.1.1; have hc3 := cellS50_3 HQ.out.pi.1.1; have hf1 := blk_frozen HQ.out.pi.1.1 1; have hf3 := blk_frozen HQ.out.pi.1.1 3)
              | (go_at_call 52; (with_reducible refine (spec_l2has.calls 10 ⟨#[41, 124, 42, 43, 63, 93]⟩ _ false _ HH.out).mono ?_); rintro e w' ⟨rfl, ⟨nd, rfl⟩⟩)
              | (go_at_call 27; (with_reducible refine (hA (wrap64 (deep + 1)) P w0 w _ g _ ⟨wrap64 (a2 + 1), L2, wr2⟩ k1 ⟨a5, L5, wr5⟩ hP (by repeat (first | (with_reducible first | exact HQ.out | apply QS.drewN | apply QS.set1) | exact HQ.out)) HAL.out).mono ?_); rintro e w9 ⟨rfl, v9, hq⟩; have n0_ := Aside0.mk hq; clear HQ hq; have HQ := n0_; clear n0_; have hc0 := cellS50_0 HQ.out.pi.1.1; have hc1 := cellS50_1 HQ.out.pi.1.1; have hc2 := cellS50_2 HQ.out.pi.1.1; have hc3 := cellS50_3 HQ.out.pi.1.1; have hf1 := blk_frozen HQ.out.pi.1.1 1; have hf3 := blk_frozen HQ.out.pi.1.1 3)
              | (go_at_call 41; (with_reducible refine (peek_q HQ.out HP2.out).mono ?_); rintro e w9 ⟨rfl, hq⟩; have n0_ := Aside0.mk hq; clear HQ hq; have HQ := n0_; clear n0_; have hc0 := cellS50_0 HQ.out.pi.1.1; have hc1 := cellS50_1 HQ.out.pi.1.1; have hc2 := cellS50_2 HQ.out.pi.1.1; have hc3 := cellS50_3 HQ.out.pi.1.1; have hf1 := blk_frozen HQ.out.pi.1.1 1; have hf3 := blk_frozen HQ.out.pi.1.1 3))
            go_ret
            exact ⟨rfl, _, (HQ.out.set3 true).set1 _⟩
      · rw [if_neg c40] at H
        have c40b : (c == 40) = false := beq_eq_false_iff_ne.mpr c40
        by_cases c91 : c = 91
        · subst c91
          rw [if_pos rfl] at H
          have H2 := Aside0.mk H
          clear H
          go_wp2_with (first
            | (go_at_call 41; (with_reducible refine (peek_q (by repeat (first | (with_reducible first | exact HQ.out | apply QS.drewN | apply QS.set1) | exact HQ.out)) HP.out).mono ?_); rintro e w9 ⟨rfl, hq⟩; have n0_ := Aside0.mk hq; clear HQ hq; have HQ := n0_; clear n0_; have hc0 := cellS50_0 HQ.out.pi.1.1; have hc1 := cellS50_1 HQ.out.pi.1.1; have hc2 := cellS50_2 HQ.out.pi.1.1; have hc3 := cellS50_3 HQ.out.pi.1.1; have hf1 := blk_frozen HQ.out.pi.1.1 1; have hf3 := blk_frozen HQ.out.pi.1.1 3)
            | (go_at_call 40; (with_reducible refine (more_q (by repeat (first | (with_reducible first | exact HQ.out | apply QS.drewN | apply QS.set1) | exact HQ.out))).mono ?_); rintro e w9 ⟨rfl, hq⟩; have n0_ := Aside0.mk hq; clear HQ hq; have HQ := n0_; clear n0_; have hc0 := cellS50_0 HQ.out.pi.1.1; have hc1 := cellS50_1 HQ.out.pi.1.1; have hc2 := cellS50_2 HQ.out.pi.1.1; have hc3 := cellS50_3 HQ.out.pi.1.1; have hf1 := blk_frozen HQ.out.pi.1.1 1; have hf3 := blk_frozen HQ.out.pi.1.1 3)
            | (go_at_call 52; (with_reducible refine (spec_l2has.calls 10 ⟨#[41, 124, 42, 43, 63, 93]⟩ _ false _ HH.out).mono ?_); rintro e w' ⟨rfl, ⟨nd, rfl⟩⟩)
            | (go_at_call 57; (with_reducible refine (set_q hP (σ := ⟨a2, L2, wr2⟩) (by repeat (first | (with_reducible first | exact HQ.out | apply QS.drewN | apply QS.set1) | exact HQ.out)) H2.out).mono ?_); rintro e w9 ⟨rfl, v9, hq⟩; have n0_ := Aside0.mk hq; clear HQ hq; have HQ := n0_; clear n0_))
          go_ret
          exact ⟨rfl, _, HQ.out⟩
        · rw [if_neg c91] at H
          have c91b : (c == 91) = false := beq_eq_false_iff_ne.mpr c91
          by_cases c94 : c = 94
          · subst c94
            rw [if_pos rfl] at H
            obtain ⟨hl, rfl, rfl⟩ := sNode_some H
            dsimp only at hl
            clear H
            go_wp2_with (first
              | (go_at_call 41; (with_reducible refine (peek_q (by repeat (first | (with_reducible first | exact HQ.out | apply QS.drewN | apply QS.set1) | exact HQ.out)) HP.out).mono ?_); rintro e w9 ⟨rfl, hq⟩; have n0_ := Aside0.mk hq; clear HQ hq; have HQ := n0_; clear n0_; have hc0 := cellS50_0 HQ.out.pi.1.1; have hc1 := cellS50_1 HQ.out.pi.1.1; have hc2 := cellS50_2 HQ.out.pi.1.1; have hc3 := cellS50_3 HQ.out.pi.1.1; have hf1 := blk_frozen HQ.out.pi.1.1 1; have hf3 := blk_frozen HQ.out.pi.1.1 3)
              | (go_at_call 40; (with_reducible refine (more_q (by repeat (first | (with_reducible first | exact HQ.out | apply QS.drewN | apply QS.set1) | exact HQ.out))).mono ?_); rintro e w9 ⟨rfl, hq⟩; have n0_ := Aside0.mk hq; clear HQ hq; have HQ := n0_; clear n0_; have hc0 := cellS50_0 HQ.out.pi.1.1; have hc1 := cellS50_1 HQ.out.pi.1.1; have hc2 := cellS50_2 HQ.out.pi.1.1; have hc3 := cellS50_3 HQ.out.pi.1.1; have hf1 := blk_frozen HQ.out.pi.1.1 1; have hf3 := blk_frozen HQ.out.pi.1.1 3)
              | (go_at_call 52; (with_reducible refine (spec_l2has.calls 10 ⟨#[41, 124, 42, 43, 63, 93]⟩ _ false _ HH.out).mono ?_); rintro e w' ⟨rfl, ⟨nd, rfl⟩⟩)
              | (go_at_call 42; (with_reducible refine (node_q (x := ⟨1, false, ⟨#[]⟩, []⟩) (by repeat (first | (with_reducible first | exact HQ.out | apply QS.drewN | apply QS.set1) | exact HQ.out)) hP hl rfl).mono ?_); rintro e w9 ⟨rfl, v9, hq⟩; have n0_ := Aside0.mk hq; clear HQ hq; have HQ := n0_; clear n0_))
            go_ret
            exact ⟨rfl, _, HQ.out⟩
          · rw [if_neg c94] at H
            have c94b : (c == 94) = false := beq_eq_false_iff_ne.mpr c94
            by_cases c36 : c = 36
            · subst c36
              rw [if_pos rfl] at H
              obtain ⟨hl, rfl, rfl⟩ := sNode_some H
              dsimp only at hl
              clear H
              go_wp2_with (first
                | (go_at_call 41; (with_reducible refine (peek_q (by repeat (first | (with_reducible first | exact HQ.out | apply QS.drewN | apply QS.set1) | exact HQ.out)) HP.out).mono ?_); rintro e w9 ⟨rfl, hq⟩; have n0_ := Aside0.mk hq; clear HQ hq; have HQ := n0_; clear n0_; have hc0 := cellS50_0 HQ.out.pi.1.1; have hc1 := cellS50_1 HQ.out.pi.1.1; have hc2 := cellS50_2 HQ.out.pi.1.1; have hc3 := cellS50_3 HQ.out.pi.1.1; have hf1 := blk_frozen HQ.out.pi.1.1 1; have hf3 := blk_frozen HQ.out.pi.1.1 3)
                | (go_at_call 40; (with_reducible refine (more_q (by repeat (first | (with_reducible first | exact HQ.out | apply QS.drewN | apply QS.set1) | exact HQ.out))).mono ?_); rintro e w9 ⟨rfl, hq⟩; have n0_ := Aside0.mk hq; clear HQ hq; have HQ := n0_; clear n0_; have hc0 := cellS50_0 HQ.out.pi.1.1; have hc1 := cellS50_1 HQ.out.pi.1.1; have hc2 := cellS50_2 HQ.out.pi.1.1; have hc3 := cellS50_3 HQ.out.pi.1.1; have hf1 := blk_frozen HQ.out.pi.1.1 1; have hf3 := blk_frozen HQ.out.pi.1.1 3)
                | (go_at_call 52; (with_reducible refine (spec_l2has.calls 10 ⟨#[41, 124, 42, 43, 63, 93]⟩ _ false _ HH.out).mono ?_); rintro e w' ⟨rfl, ⟨nd, rfl⟩⟩)
                | (go_at_call 42; (with_reducible refine (node_q (x := ⟨2, false, ⟨#[]⟩, []⟩) (by repeat (first | (with_reducible first | exact HQ.out | apply QS.drewN | apply QS.set1) | exact HQ.out)) hP hl rfl).mono ?_); rintro e w9 ⟨rfl, v9, hq⟩; have n0_ := Aside0.mk hq; clear HQ hq; have HQ := n0_; clear n0_))
              go_ret
              exact ⟨rfl, _, HQ.out⟩
            · rw [if_neg c36] at H
              have c36b : (c == 36) = false := beq_eq_false_iff_ne.mpr c36
              by_cases c46 : c = 46
              · subst c46
                rw [if_pos rfl] at H
                obtain ⟨hl, rfl, rfl⟩ := sNode_some H
                dsimp only at hl
                clear H
                go_wp2_with (first
                  | (go_at_call 41; (with_reducible refine (peek_q (by repeat (first | (with_reducible first | exact HQ.out | apply QS.drewN | apply QS.set1) | exact HQ.out)) HP.out).mono ?_); rintro e w9 ⟨rfl, hq⟩; have n0_ := Aside0.mk hq; clear HQ hq; have HQ := n0_; clear n0_; have hc0 := cellS50_0 HQ.out.pi.1.1; have hc1 := cellS50_1 HQ.out.pi.1.1; have hc2 := cellS50_2 HQ.out.pi.1.1; have hc3 := cellS50_3 HQ.out.pi.1.1; have hf1 := blk_frozen HQ.out.pi.1.1 1; have hf3 := blk_frozen HQ.out.pi.1.1 3)
                  | (go_at_call 40; (with_reducible refine (more_q (by repeat (first | (with_reducible first | exact HQ.out | apply QS.drewN | apply QS.set1) | exact HQ.out))).mono ?_); rintro e w9 ⟨rfl, hq⟩; have n0_ := Aside0.mk hq; clear HQ hq; have HQ := n0_; clear n0_; have hc0 := cellS50_0 HQ.out.pi.1.1; have hc1 := cellS50_1 HQ.out.pi.1.1; have hc2 := cellS50_2 HQ.out.pi.1.1; have hc3 := cellS50_3 HQ.out.pi.1.1; have hf1 := blk_frozen HQ.out.pi.1.1 1; have hf3 := blk_frozen HQ.out.pi.1.1 3)
                  | (go_at_call 52; (with_reducible refine (spec_l2has.calls 10 ⟨#[41, 124, 42, 43, 63, 93]⟩ _ false _ HH.out).mono ?_); rintro e w' ⟨rfl, ⟨nd, rfl⟩⟩)
                  | (go_at_call 42; (with_reducible refine (node_q (x := ⟨0, true, ⟨#[]⟩, []⟩) (by repeat (first | (with_reducible first | exact HQ.out | apply QS.drewN | apply QS.set1) | exact HQ.out)) hP hl rfl).mono ?_); rintro e w9 ⟨rfl, v9, hq⟩; have n0_ := Aside0.mk hq; clear HQ hq; have HQ := n0_; clear n0_))
                go_ret
                exact ⟨rfl, _, HQ.out⟩
              · rw [if_neg c46] at H
                have c46b : (c == 46) = false := beq_eq_false_iff_ne.mpr c46
                by_cases c92 : c = 92
                · subst c92
                  rw [if_pos rfl] at H
                  by_cases cm2 : sMore s (wrap64 (a2 + 1)) = true
                  · rw [if_pos cm2] at H
                    obtain ⟨⟨c7, a7, wr7⟩, hg7, H⟩ := Option.bind_eq_some_iff.mp H
                    obtain ⟨ji, hji⟩ : ∃ ji, wrap64 (wrap64 (wrap64 (a2 + 1) + 1) - 1) = ji := ⟨_, rfl⟩
                    have hjiw : IntKind.i64.wrap (wrap64 (wrap64 (a2 + 1) + 1) - 1) = ji := (i64_w _).trans hji
                    unfold sGot at hg7
                    rw [hji] at hg7
                    by_cases p5 : 0 ≤ ji
                    · rw [if_pos p5] at hg7
                      by_cases q5 : ji < (s.size : Int)
                      · rw [if_pos q5] at hg7
                        simp only [Option.some.injEq, Prod.mk.injEq] at hg7
                        obtain ⟨rfl, rfl, rfl⟩ := hg7
                        obtain ⟨hl, rfl, rfl⟩ := sNode_some H
                        dsimp only at hl
                        clear H
                        have hx5 := bt_at s ji
                        have p5' := eq_true p5
                        have q5' := eq_true q5
                        go_upto_region 30 with (first
                          | (go_at_call 41; (with_reducible refine (peek_q (by repeat (first | (with_reducible first | exact HQ.out | apply QS.drewN | apply QS.set1) | exact HQ.out)) HP.out).mono ?_); rintro e w9 ⟨rfl, hq⟩; have n0_ := Aside0.mk hq; clear HQ hq; have HQ := n0_; clear n0_; have hc0 := cellS50_0 HQ.out.pi.1.1; have hc1 := cellS50_1 HQ.out.pi.1.1; have hc2 := cellS50_2 HQ.out.pi.1.1; have hc3 := cellS50_3 HQ.out.pi.1.1; have hf1 := blk_frozen HQ.out.pi.1.1 1; have hf3 := blk_frozen HQ.out.pi.1.1 3)
                          | (go_at_call 40; (with_reducible refine (more_q (by repeat (first | (with_reducible first | exact HQ.out | apply QS.drewN | apply QS.set1) | exact HQ.out))).mono ?_); rintro e w9 ⟨rfl, hq⟩; have n0_ := Aside0.mk hq; clear HQ hq; have HQ := n0_; clear n0_; have hc0 := cellS50_0 HQ.out.pi.1.1; have hc1 := cellS50_1 HQ.out.pi.1.1; have hc2 := cellS50_2 HQ.out.pi.1.1; have hc3 := cellS50_3 HQ.out.pi.1.1; have hf1 := blk_frozen HQ.out.pi.1.1 1; have hf3 := blk_frozen HQ.out.pi.1.1 3)
                          | (go_at_call 52; (with_reducible refine (spec_l2has.calls 10 ⟨#[41, 124, 42, 43, 63, 93]⟩ _ false _ HH.out).mono ?_); rintro e w' ⟨rfl, ⟨nd, rfl⟩⟩))
                        have n0_ := Aside0.mk (HQ.out.set1 (wrap64 (wrap64 (a2 + 1) + 1)))
                        generalize World.setCell w9 ⟨g, 1, none⟩ (.int .i64 (wrap64 (wrap64 (a2 + 1) + 1))) = w10 at n0_ ⊢
                        clear HQ hc0 hc1 hc2 hc3 hf1 hf3
                        have HQ := n0_
                        clear n0_
                        refine start_ (n := 14) (S := fun w' => w'.cell? ⟨g, 0, none⟩ = some (.string s) ∧ w'.cell? ⟨g, 1, none⟩ = some (.int .i64 (wrap64 (wrap64 (a2 + 1) + 1)))) (ds := []) #[false, false, false, false, false, false, false, false, false, false, false, false, false, false] (by kernel_rfl) rfl rfl ⟨cellS50_0 HQ.out.pi.1.1, cellS50_1 HQ.out.pi.1.1⟩ (fun hHeld => ?_)
                        refine with_tabW spec_l2atom.tab30 spec_l2atom.bits30 (fun HT_ HW_ => ?_)
                        have n0_ := Aside0.mk HQ.out.drew
                        clear HQ
                        generalize World.drew _ = w8 at n0_ hHeld ⊢
                        have HQ := n0_
                        clear n0_
                        refine pure_ (i := 0) (N := some 96) (v := ?_) (a' := ?_) #[true, false, false, false, false, false, false, false, false, false, false, false, false, false] rfl rfl (any_of HT_.out (by kernel_rfl)) (fun _ _ _ h => h) (Or.inl ⟨by rfl, ?_⟩) ?_ ?_
                        rotate_left
                        · intro w'
                          go_simp
                          with_reducible rfl
                        rotate_left
                        · simp only [Act.put, List.setIfInBounds_toArray, List.set_cons_zero, List.set_cons_succ, i64_w, i32_w]
                          rfl
                        refine pure_ (i := 1) (N := some 97) (v := ?_) (a' := ?_) #[true, true, false, false, false, false, false, false, false, false, false, false, false, false] rfl rfl (any_of HT_.out (by kernel_rfl)) (fun _ _ _ h => h) (Or.inl ⟨by rfl, ?_⟩) ?_ ?_
                        rotate_left
                        · intro w'
                          go_simp
                          with_reducible rfl
                        rotate_left
                        · simp only [Act.put, List.setIfInBounds_toArray, List.set_cons_zero, List.set_cons_succ, i64_w, i32_w]
                          rfl
                        refine pure_ (i := 2) (N := some 98) (v := ?_) (a' := ?_) #[true, true, true, false, false, false, false, false, false, false, false, false, false, false] rfl rfl (any_of HT_.out (by kernel_rfl)) (fun _ _ _ h => h) (Or.inl ⟨by rfl, ?_⟩) ?_ ?_
                        rotate_left
                        · intro w'
                          go_simp
                          with_reducible rfl
                        rotate_left
                        · simp only [Act.put, List.setIfInBounds_toArray, List.set_cons_zero, List.set_cons_succ, i64_w, i32_w]
                          rfl
                        refine pure_ (i := 3) (N := some 99) (v := ?_) (a' := ?_) #[true, true, true, true, false, false, false, false, false, false, false, false, false, false] rfl rfl (any_of HT_.out (by kernel_rfl)) (fun _ _ _ h => h) (Or.inl ⟨by rfl, ?_⟩) ?_ ?_
                        rotate_left
                        · intro w'
                          go_simp
                          with_reducible rfl
                        rotate_left
                        · simp only [Act.put, List.setIfInBounds_toArray, List.set_cons_zero, List.set_cons_succ, i64_w, i32_w]
                          rfl
                        refine take_ (i := 4) (N := some 100) (v := ?_) (a' := ?_) #[true, true, true, true, true, false, false, false, false, false, false, false, false, false] rfl rfl (take_ofW HT_.out HW_.out (by kernel_rfl)) (fun _ _ _ h => h) (Or.inl ⟨by rfl, ?_⟩) hHeld ?_ ?_
                        rotate_left
                        · rintro w' ⟨s0, s1⟩
                          go_simp
                          with_reducible rfl
                        rotate_left
                        · simp only [Act.put, List.setIfInBounds_toArray, List.set_cons_zero, List.set_cons_succ, i64_w, i32_w]
                          rfl
                        refine pure_ (i := 5) (N := some 101) (v := ?_) (a' := ?_) #[true, true, true, true, true, true, false, false, false, false, false, false, false, false] rfl rfl (any_of HT_.out (by kernel_rfl)) (fun _ _ _ h => h) (Or.inl ⟨by rfl, ?_⟩) ?_ ?_
                        rotate_left
                        · intro w'
                          go_simp
                          with_reducible rfl
                        rotate_left
                        · simp only [Act.put, List.setIfInBounds_toArray, List.set_cons_zero, List.set_cons_succ, i64_w, i32_w]
                          rfl
                        refine pure_ (i := 6) (N := some 102) (v := ?_) (a' := ?_) #[true, true, true, true, true, true, true, false, false, false, false, false, false, false] rfl rfl (any_of HT_.out (by kernel_rfl)) (fun _ _ _ h => h) (Or.inl ⟨by rfl, ?_⟩) ?_ ?_
                        rotate_left
                        · intro w'
                          go_simp
                          with_reducible rfl
                        rotate_left
                        · simp only [Act.put, List.setIfInBounds_toArray, List.set_cons_zero, List.set_cons_succ, i64_w, i32_w]
                          rfl
                        refine pure_ (i := 7) (N := some 103) (v := ?_) (a' := ?_) #[true, true, true, true, true, true, true, true, false, false, false, false, false, false] rfl rfl (any_of HT_.out (by kernel_rfl)) (fun _ _ _ h => h) (Or.inl ⟨by rfl, ?_⟩) ?_ ?_
                        rotate_left
                        · intro w'
                          go_simp
                          with_reducible rfl
                        rotate_left
                        · simp only [Act.put, List.setIfInBounds_toArray, List.set_cons_zero, List.set_cons_succ, i64_w, i32_w]
                          rfl
                        refine take_ (i := 8) (N := some 104) (v := ?_) (a' := ?_) #[true, true, true, true, true, true, true, true, true, false, false, false, false, false] rfl rfl (take_ofW HT_.out HW_.out (by kernel_rfl)) (fun _ _ _ h => h) (Or.inl ⟨by rfl, ?_⟩) hHeld ?_ ?_
                        rotate_left
                        · rintro w' ⟨s0, s1⟩
                          go_simp
                          with_reducible rfl
                        rotate_left
                        · simp only [Act.put, List.setIfInBounds_toArray, List.set_cons_zero, List.set_cons_succ, i64_w, i32_w]
                          rfl
                        refine pure_ (i := 9) (N := some 105) (v := ?_) (a' := ?_) #[true, true, true, true, true, true, true, true, true, true, false, false, false, false] rfl rfl (any_of HT_.out (by kernel_rfl)) (fun _ _ _ h => h) (Or.inl ⟨by rfl, ?_⟩) ?_ ?_
                        rotate_left
                        · intro w'
                          go_simp
                          with_reducible rfl
                        rotate_left
                        · simp only [Act.put, List.setIfInBounds_toArray, List.set_cons_zero, List.set_cons_succ, i64_w, i32_w]
                          rfl
                        refine pure_ (i := 10) (N := some 106) (v := ?_) (a' := ?_) #[true, true, true, true, true, true, true, true, true, true, true, false, false, false] rfl rfl (any_of HT_.out (by kernel_rfl)) (fun _ _ _ h => h) (Or.inl ⟨by rfl, ?_⟩) ?_ ?_
                        rotate_left
                        · intro w'
                          go_simp
                          with_reducible rfl
                        rotate_left
                        · simp only [Act.put, List.setIfInBounds_toArray, List.set_cons_zero, List.set_cons_succ, i64_w, i32_w]
                          rfl
                        refine one_ (i := 11) (N := some 107) #[true, true, true, true, true, true, true, true, true, true, true, true, false, false] rfl rfl (one_of HT_.out (by kernel_rfl)) (by decide) (fun K hK => ?_)
                        refine goes_ Try.func58 (by kernel_rfl) rfl #[.int .u8 (bt s ji)] (by rfl) rfl rfl (by (try simp only [List.map_toArray, List.map_cons, List.map_nil]); first | done | rfl) ?_
                        refine (spec_l2byte.calls (bt s ji) 0 false (strOfNums [bt s ji, bt s ji]) [] _ rfl).mono ?_
                        rintro e w9 ⟨v3_, rfl, hr, hb⟩
                        refine ⟨_, rfl, ?_⟩
                        have n0_ := Aside0.mk (QS.kidsE HQ.out hP hr hb)
                        clear HQ hr hb
                        have HQ := n0_
                        clear n0_
                        refine hK.out _ _ ⟨cellS50_0 HQ.out.pi.1.1, cellS50_1 HQ.out.pi.1.1⟩ (fun hHeld => ?_)
                        clear hK K
                        refine norm_ (a' := ?_) ?_ ?_
                        rotate_left
                        · show Act.put _ (some 107) _ = _
                          simp only [Act.put, List.setIfInBounds_toArray, List.set_cons_zero, List.set_cons_succ, i64_w, i32_w]
                          rfl
                        refine one_ (i := 12) (N := some 108) #[true, true, true, true, true, true, true, true, true, true, true, true, true, false] rfl rfl (one_of HT_.out (by kernel_rfl)) (by decide) (fun K hK => ?_)
                        refine goes_ Try.func42 (by kernel_rfl) rfl #[.pointer (some ⟨g, 0, none⟩), .agg #[.int .i64 0, .bool false, .string (strOfNums [bt s ji, bt s ji]), v3_]] (by rfl) rfl rfl (by (try simp only [List.map_toArray, List.map_cons, List.map_nil]); first | done | rfl) ?_
                        refine (nodek_q (x := ⟨0, false, strOfNums [bt s ji, bt s ji], []⟩) HQ.out hP hl rfl).mono ?_
                        rintro e w9 ⟨rfl, v9, hq⟩
                        refine ⟨_, rfl, ?_⟩
                        have n0_ := Aside0.mk hq
                        clear HQ hq
                        have HQ := n0_
                        clear n0_
                        refine hK.out _ _ ⟨cellS50_0 HQ.out.pi.1.1, cellS50_1 HQ.out.pi.1.1⟩ (fun hHeld => ?_)
                        clear hK K
                        refine norm_ (a' := ?_) ?_ ?_
                        rotate_left
                        · show Act.put _ (some 108) _ = _
                          simp only [Act.put, List.setIfInBounds_toArray, List.set_cons_zero, List.set_cons_succ, i64_w, i32_w]
                          rfl
                        refine pure_ (i := 13) (N := some 4) (v := ?_) (a' := ?_) #[true, true, true, true, true, true, true, true, true, true, true, true, true, true] rfl rfl (any_of HT_.out (by kernel_rfl)) (fun _ _ _ h => h) (Or.inl ⟨by rfl, ?_⟩) ?_ ?_
                        rotate_left
                        · intro w'
                          go_simp
                          with_reducible rfl
                        rotate_left
                        · simp only [Act.put, List.setIfInBounds_toArray, List.set_cons_zero, List.set_cons_succ, i64_w, i32_w]
                          rfl
                        refine done_ (done_of HT_.out (by kernel_rfl)) ?_
                        try go_wp2
                        go_ret
                        exact ⟨rfl, _, HQ.out⟩
                      · rw [if_neg q5] at hg7
                        cases hg7
                    · rw [if_neg p5] at hg7
                      cases hg7
                  · rw [if_neg cm2] at H
                    have cm2b : sMore s (wrap64 (a2 + 1)) = false := by simpa using cm2
                    simp only [Option.some.injEq, Prod.mk.injEq] at H
                    obtain ⟨rfl, rfl⟩ := H
                    go_wp2_with (first
                      | (go_at_call 41; (with_reducible refine (peek_q (by repeat (first | (with_reducible first | exact HQ.out | apply QS.drewN | apply QS.set1) | exact HQ.out)) HP.out).mono ?_); rintro e w9 ⟨rfl, hq⟩; have n0_ := Aside0.mk hq; clear HQ hq; have HQ := n0_; clear n0_; have hc0 := cellS50_0 HQ.out.pi.1.1; have hc1 := cellS50_1 HQ.out.pi.1.1; have hc2 := cellS50_2 HQ.out.pi.1.1; have hc3 := cellS50_3 HQ.out.pi.1.1; have hf1 := blk_frozen HQ.out.pi.1.1 1; have hf3 := blk_frozen HQ.out.pi.1.1 3)
                      | (go_at_call 40; (with_reducible refine (more_q (by repeat (first | (with_reducible first | exact HQ.out | apply QS.drewN | apply QS.set1) | exact HQ.out))).mono ?_); rintro e w9 ⟨rfl, hq⟩; have n0_ := Aside0.mk hq; clear HQ hq; have HQ := n0_; clear n0_; have hc0 := cellS50_0 HQ.out.pi.1.1; have hc1 := cellS50_1 HQ.out.pi.1.1; have hc2 := cellS50_2 HQ.out.pi.1.1; have hc3 := cellS50_3 HQ.out.pi.1.1; have hf1 := blk_frozen HQ.out.pi.1.1 1; have hf3 := blk_frozen HQ.out.pi.1.1 3)
                      | (go_at_call 52; (with_reducible refine (spec_l2has.calls 10 ⟨#[41, 124, 42, 43, 63, 93]⟩ _ false _ HH.out).mono ?_); rintro e w' ⟨rfl, ⟨nd, rfl⟩⟩))
                    go_ret
                    exact ⟨rfl, _, (QS.set3 (by repeat (first | (with_reducible first | exact HQ.out | apply QS.drewN | apply QS.set1) | exact HQ.out)) true)⟩
                · rw [if_neg c92] at H
                  have c92b : (c == 92) = false := beq_eq_false_iff_ne.mpr c92
                  obtain ⟨hl, rfl, rfl⟩ := sNode_some H
                  dsimp only at hl
                  clear H
                  go_wp2_with (first
                    | (go_at_call 41; (with_reducible refine (peek_q (by repeat (first | (with_reducible first | exact HQ.out | apply QS.drewN | apply QS.set1) | exact HQ.out)) HP.out).mono ?_); rintro e w9 ⟨rfl, hq⟩; have n0_ := Aside0.mk hq; clear HQ hq; have HQ := n0_; clear n0_; have hc0 := cellS50_0 HQ.out.pi.1.1; have hc1 := cellS50_1 HQ.out.pi.1.1; have hc2 := cellS50_2 HQ.out.pi.1.1; have hc3 := cellS50_3 HQ.out.pi.1.1; have hf1 := blk_frozen HQ.out.pi.1.1 1; have hf3 := blk_frozen HQ.out.pi.1.1 3)
                    | (go_at_call 40; (with_reducible refine (more_q (by repeat (first | (with_reducible first | exact HQ.out | apply QS.drewN | apply QS.set1) | exact HQ.out))).mono ?_); rintro e w9 ⟨rfl, hq⟩; have n0_ := Aside0.mk hq; clear HQ hq; have HQ := n0_; clear n0_; have hc0 := cellS50_0 HQ.out.pi.1.1; have hc1 := cellS50_1 HQ.out.pi.1.1; have hc2 := cellS50_2 HQ.out.pi.1.1; have hc3 := cellS50_3 HQ.out.pi.1.1; have hf1 := blk_frozen HQ.out.pi.1.1 1; have hf3 := blk_frozen HQ.out.pi.1.1 3)
                    | (go_at_call 52; (with_reducible refine (spec_l2has.calls 10 ⟨#[41, 124, 42, 43, 63, 93]⟩ _ false _ HH.out).mono ?_); rintro e w' ⟨rfl, ⟨nd, rfl⟩⟩)
                    | (go_at_call 58; (with_reducible refine (spec_l2byte.calls c 0 false (strOfNums [c, c]) [] _ rfl).mono ?_); rintro e w9 ⟨v3_, rfl, hr, hb⟩; have n0_ := Aside0.mk (QS.kidsE (by repeat (first | (with_reducible first | exact HQ.out | apply QS.drewN | apply QS.set1) | exact HQ.out)) hP hr hb); clear HQ hr hb; have HQ := n0_; clear n0_)
                    | (go_at_call 42; (with_reducible refine (nodek_q (x := ⟨0, false, strOfNums [c, c], []⟩) HQ.out hP hl rfl).mono ?_); rintro e w9 ⟨rfl, v9, hq⟩; have n0_ := Aside0.mk hq; clear HQ hq; have HQ := n0_; clear n0_))
                  go_ret
                  exact ⟨rfl, _, HQ.out⟩
    · rw [if_pos rfl] at H
      simp only [Option.some.injEq, Prod.mk.injEq] at H
      obtain ⟨rfl, rfl⟩ := H
      go_wp2_with (first
        | (go_at_call 41; (with_reducible refine (peek_q (by repeat (first | (with_reducible first | exact HQ.out | apply QS.drewN | apply QS.set1) | exact HQ.out)) HP.out).mono ?_); rintro e w9 ⟨rfl, hq⟩; have n0_ := Aside0.mk hq; clear HQ hq; have HQ := n0_; clear n0_; have hc0 := cellS50_0 HQ.out.pi.1.1; have hc1 := cellS50_1 HQ.out.pi.1.1; have hc2 := cellS50_2 HQ.out.pi.1.1; have hc3 := cellS50_3 HQ.out.pi.1.1; have hf1 := blk_frozen HQ.out.pi.1.1 1; have hf3 := blk_frozen HQ.out.pi.1.1 3)
        | (go_at_call 40; (with_reducible refine (more_q (by repeat (first | (with_reducible first | exact HQ.out | apply QS.drewN | apply QS.set1) | exact HQ.out))).mono ?_); rintro e w9 ⟨rfl, hq⟩; have n0_ := Aside0.mk hq; clear HQ hq; have HQ := n0_; clear n0_; have hc0 := cellS50_0 HQ.out.pi.1.1; have hc1 := cellS50_1 HQ.out.pi.1.1; have hc2 := cellS50_2 HQ.out.pi.1.1; have hc3 := cellS50_3 HQ.out.pi.1.1; have hf1 := blk_frozen HQ.out.pi.1.1 1; have hf3 := blk_frozen HQ.out.pi.1.1 3)
        | (go_at_call 52; (with_reducible refine (spec_l2has.calls 10 ⟨#[41, 124, 42, 43, 63, 93]⟩ _ true _ HH.out).mono ?_); rintro e w' ⟨rfl, ⟨nd, rfl⟩⟩))
      go_ret
      exact ⟨rfl, _, (QS.set3 (by repeat (first | (with_reducible first | exact HQ.out | apply QS.drewN | apply QS.set1) | exact HQ.out)) true)⟩
  · rw [if_neg cm] at H
    have cmb : sMore s a2 = false := by simpa using cm
    simp only [Option.some.injEq, Prod.mk.injEq] at H
    obtain ⟨rfl, rfl⟩ := H
    go_wp2_with (first
      | (go_at_call 41; (with_reducible refine (peek_q (by repeat (first | (with_reducible first | exact HQ.out | apply QS.drewN | apply QS.set1) | exact HQ.out)) HP.out).mono ?_); rintro e w9 ⟨rfl, hq⟩; have n0_ := Aside0.mk hq; clear HQ hq; have HQ := n0_; clear n0_; have hc0 := cellS50_0 HQ.out.pi.1.1; have hc1 := cellS50_1 HQ.out.pi.1.1; have hc2 := cellS50_2 HQ.out.pi.1.1; have hc3 := cellS50_3 HQ.out.pi.1.1; have hf1 := blk_frozen HQ.out.pi.1.1 1; have hf3 := blk_frozen HQ.out.pi.1.1 3)
      | (go_at_call 40; (with_reducible refine (more_q (by repeat (first | (with_reducible first | exact HQ.out | apply QS.drewN | apply QS.set1) | exact HQ.out))).mono ?_); rintro e w9 ⟨rfl, hq⟩; have n0_ := Aside0.mk hq; clear HQ hq; have HQ := n0_; clear n0_; have hc0 := cellS50_0 HQ.out.pi.1.1; have hc1 := cellS50_1 HQ.out.pi.1.1; have hc2 := cellS50_2 HQ.out.pi.1.1; have hc3 := cellS50_3 HQ.out.pi.1.1; have hf1 := blk_frozen HQ.out.pi.1.1 1; have hf3 := blk_frozen HQ.out.pi.1.1 3))
    go_ret
    exact ⟨rfl, _, (QS.set3 (by repeat (first | (with_reducible first | exact HQ.out | apply QS.drewN | apply QS.set1) | exact HQ.out)) true)⟩
end Go.Proofs.Ytmddcohelcciaaa.PFnExactReParse.H
