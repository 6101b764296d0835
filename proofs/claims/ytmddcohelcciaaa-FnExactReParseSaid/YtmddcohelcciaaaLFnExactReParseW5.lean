/- atom. -/
import Derived.Test.YtmddcohelcciaaaLFnExactReParseW4
namespace Go.Proofs.Ytmddcohelcciaaa.PFnExactReParse.H
open Go.RowKit Go.Proofs.YtmddcohelcciaaaW.PrintWords Go.Proofs.YtmddcohelcciaaaW.PrintLast Go.Proofs.YtmddcohelcciaaaW.PrintMore
attribute [local go_sem] max2_int min2_int max_two min_two max_three min_three max_four min_four   -- for this text's walks alone
set_option linter.unusedVariables false
set_option linter.unusedSimpArgs false

set_option maxHeartbeats 8000000 in
set_option maxRecDepth 100000 in
theorem atom_q {s : ByteArray} {Wh : IS → Option (Int × IS)} (hW : DoesI 28 s Wh) (n : Nat) : DoesI 54 s (iAtom s Wh n) := by
  intro P w0 w W g v σ r σ' hP hQ h
  have hu39 := Try.underlying39
  have HQ := Aside0.mk hQ
  clear hQ
  unfold iAtom at h
  obtain ⟨⟨c, a1, wr1⟩, hn, H⟩ := Option.bind_eq_some_iff.mp h
  have HN := Aside0.mk hn
  clear h hn
  dsimp only at H
  by_cases c40 : c = 40
  · subst c40
    rw [if_pos rfl] at H
    obtain ⟨d1, hd1⟩ : ∃ d1, wrap64 (σ.deep + 1) = d1 := ⟨_, rfl⟩
    have hd1w : IntKind.i64.wrap (σ.deep + 1) = d1 := (i64_w _).trans hd1
    rw [hd1] at H
    by_cases c1 : d1 > 20
    · rw [if_pos c1] at H
      have c1b0 : decide (20 < d1) = true := decide_eq_true c1
      simp only [Option.some.injEq, Prod.mk.injEq] at H
      obtain ⟨rfl, rfl⟩ := H
      go_enter Try.func54, Try.ntmps54
      go_wp2_with (first
        | (go_at_call 55; (with_reducible refine (next_q HQ.out HN.out).mono ?_); rintro e w9 ⟨rfl, hq⟩; have n0_ := Aside0.mk hq; clear HQ hq; have HQ := n0_; clear n0_; have hc0 := cellS55_0 HQ.out.pi.1.1; have hc1 := cellS55_1 HQ.out.pi.1.1; have hc2 := cellS55_2 HQ.out.pi.1.1; have hc3 := cellS55_3 HQ.out.pi.1.1; have hc4 := cellS55_4 HQ.out.pi.1.1; have hf1 := blk_frozen HQ.out.pi.1.1 1; have hf2 := blk_frozen HQ.out.pi.1.1 2; have hf4 := blk_frozen HQ.out.pi.1.1 4))
      go_ret
      exact ⟨rfl, _, (HQ.out.set2 d1).set4 true⟩
    · rw [if_neg c1] at H
      have c1b0 : decide (20 < d1) = false := decide_eq_false c1
      cases wr1
      · rw [if_neg (by decide)] at H
        obtain ⟨⟨q1, q2⟩, hw, H⟩ := Option.bind_eq_some_iff.mp H
        have HW := Aside0.mk hw
        clear hw
        obtain ⟨a5, d5, L5, wr5⟩ := q2
        dsimp only at H HW
        cases wr5
        · rw [if_neg (by decide)] at H
          obtain ⟨⟨c6, a6, wr6⟩, hn6, H⟩ := Option.bind_eq_some_iff.mp H
          have HN6 := Aside0.mk hn6
          clear hn6
          simp only [Option.some.injEq, Prod.mk.injEq] at H
          obtain ⟨rfl, rfl⟩ := H
          go_enter Try.func54, Try.ntmps54
          go_wp2_with (first
            | (go_at_call 55; (with_reducible refine (next_q HQ.out HN.out).mono ?_); rintro e w9 ⟨rfl, hq⟩; have n0_ := Aside0.mk hq; clear HQ hq; have HQ := n0_; clear n0_; have hc0 := cellS55_0 HQ.out.pi.1.1; have hc1 := cellS55_1 HQ.out.pi.1.1; have hc2 := cellS55_2 HQ.out.pi.1.1; have hc3 := cellS55_3 HQ.out.pi.1.1; have hc4 := cellS55_4 HQ.out.pi.1.1; have hf1 := blk_frozen HQ.out.pi.1.1 1; have hf2 := blk_frozen HQ.out.pi.1.1 2; have hf4 := blk_frozen HQ.out.pi.1.1 4)
            | (go_at_call 28; (with_reducible refine (hW P w0 w _ g _ ⟨a1, d1, σ.L, false⟩ q1 ⟨a5, d5, L5, false⟩ hP (HQ.out.set2 d1) HW.out).mono ?_); rintro e w9 ⟨rfl, v9, hq⟩; have n0_ := Aside0.mk hq; clear HQ hq; have HQ := n0_; clear n0_; have hc0 := cellS55_0 HQ.out.pi.1.1; have hc1 := cellS55_1 HQ.out.pi.1.1; have hc2 := cellS55_2 HQ.out.pi.1.1; have hc3 := cellS55_3 HQ.out.pi.1.1; have hc4 := cellS55_4 HQ.out.pi.1.1; have hf1 := blk_frozen HQ.out.pi.1.1 1; have hf2 := blk_frozen HQ.out.pi.1.1 2; have hf4 := blk_frozen HQ.out.pi.1.1 4)
            | (go_at_call 55; (with_reducible refine (next_q (HQ.out.set2 (wrap64 (d5 - 1))) HN6.out).mono ?_); rintro e w9 ⟨rfl, hq⟩; have n0_ := Aside0.mk hq; clear HQ hq; have HQ := n0_; clear n0_; have hc0 := cellS55_0 HQ.out.pi.1.1; have hc1 := cellS55_1 HQ.out.pi.1.1; have hc2 := cellS55_2 HQ.out.pi.1.1; have hc3 := cellS55_3 HQ.out.pi.1.1; have hc4 := cellS55_4 HQ.out.pi.1.1; have hf1 := blk_frozen HQ.out.pi.1.1 1; have hf2 := blk_frozen HQ.out.pi.1.1 2; have hf4 := blk_frozen HQ.out.pi.1.1 4))
          go_ret
          exact ⟨rfl, _, HQ.out.set4 _⟩
        · rw [if_pos rfl] at H
          simp only [Option.some.injEq, Prod.mk.injEq] at H
          obtain ⟨rfl, rfl⟩ := H
          go_enter Try.func54, Try.ntmps54
          go_wp2_with (first
            | (go_at_call 55; (with_reducible refine (next_q HQ.out HN.out).mono ?_); rintro e w9 ⟨rfl, hq⟩; have n0_ := Aside0.mk hq; clear HQ hq; have HQ := n0_; clear n0_; have hc0 := cellS55_0 HQ.out.pi.1.1; have hc1 := cellS55_1 HQ.out.pi.1.1; have hc2 := cellS55_2 HQ.out.pi.1.1; have hc3 := cellS55_3 HQ.out.pi.1.1; have hc4 := cellS55_4 HQ.out.pi.1.1; have hf1 := blk_frozen HQ.out.pi.1.1 1; have hf2 := blk_frozen HQ.out.pi.1.1 2; have hf4 := blk_frozen HQ.out.pi.1.1 4)
            | (go_at_call 28; (with_reducible refine (hW P w0 w _ g _ ⟨a1, d1, σ.L, false⟩ q1 ⟨a5, d5, L5, true⟩ hP (HQ.out.set2 d1) HW.out).mono ?_); rintro e w9 ⟨rfl, v9, hq⟩; have n0_ := Aside0.mk hq; clear HQ hq; have HQ := n0_; clear n0_; have hc0 := cellS55_0 HQ.out.pi.1.1; have hc1 := cellS55_1 HQ.out.pi.1.1; have hc2 := cellS55_2 HQ.out.pi.1.1; have hc3 := cellS55_3 HQ.out.pi.1.1; have hc4 := cellS55_4 HQ.out.pi.1.1; have hf1 := blk_frozen HQ.out.pi.1.1 1; have hf2 := blk_frozen HQ.out.pi.1.1 2; have hf4 := blk_frozen HQ.out.pi.1.1 4))
          go_ret
          exact ⟨rfl, _, (HQ.out.set2 (wrap64 (d5 - 1))).set4 true⟩
      · rw [if_pos rfl] at H
        simp only [Option.some.injEq, Prod.mk.injEq] at H
        obtain ⟨rfl, rfl⟩ := H
        go_enter Try.func54, Try.ntmps54
        go_wp2_with (first
          | (go_at_call 55; (with_reducible refine (next_q HQ.out HN.out).mono ?_); rintro e w9 ⟨rfl, hq⟩; have n0_ := Aside0.mk hq; clear HQ hq; have HQ := n0_; clear n0_; have hc0 := cellS55_0 HQ.out.pi.1.1; have hc1 := cellS55_1 HQ.out.pi.1.1; have hc2 := cellS55_2 HQ.out.pi.1.1; have hc3 := cellS55_3 HQ.out.pi.1.1; have hc4 := cellS55_4 HQ.out.pi.1.1; have hf1 := blk_frozen HQ.out.pi.1.1 1; have hf2 := blk_frozen HQ.out.pi.1.1 2; have hf4 := blk_frozen HQ.out.pi.1.1 4))
        go_ret
        exact ⟨rfl, _, HQ.out.set2 d1⟩
  · rw [if_neg c40] at H
    have c40b : (c == 40) = false := beq_eq_false_iff_ne.mpr c40
    by_cases c94 : c = 94
    · subst c94
      rw [if_pos rfl] at H
      obtain ⟨hl, rfl, rfl⟩ := iAdd_some H
      dsimp only at hl
      clear H
      go_enter Try.func54, Try.ntmps54
      go_wp2_with (first
        | (go_at_call 55; (with_reducible refine (next_q HQ.out HN.out).mono ?_); rintro e w9 ⟨rfl, hq⟩; have n0_ := Aside0.mk hq; clear HQ hq; have HQ := n0_; clear n0_; have hc0 := cellS55_0 HQ.out.pi.1.1; have hc1 := cellS55_1 HQ.out.pi.1.1; have hc2 := cellS55_2 HQ.out.pi.1.1; have hc3 := cellS55_3 HQ.out.pi.1.1; have hc4 := cellS55_4 HQ.out.pi.1.1; have hf1 := blk_frozen HQ.out.pi.1.1 1; have hf2 := blk_frozen HQ.out.pi.1.1 2; have hf4 := blk_frozen HQ.out.pi.1.1 4)
        | (go_at_call 51; (with_reducible refine (add_q (x := ⟨1, false, ⟨#[]⟩, []⟩) HQ.out hP hl rfl).mono ?_); rintro e w9 ⟨rfl, v9, hq⟩; have n0_ := Aside0.mk hq; clear HQ hq; have HQ := n0_; clear n0_))
      go_ret
      exact ⟨rfl, _, HQ.out⟩
    · rw [if_neg c94] at H
      have c94b : (c == 94) = false := beq_eq_false_iff_ne.mpr c94
      by_cases c36 : c = 36
      · subst c36
        rw [if_pos rfl] at H
        obtain ⟨hl, rfl, rfl⟩ := iAdd_some H
        dsimp only at hl
        clear H
        go_enter Try.func54, Try.ntmps54
        go_wp2_with (first
          | (go_at_call 55; (with_reducible refine (next_q HQ.out HN.out).mono ?_); rintro e w9 ⟨rfl, hq⟩; have n0_ := Aside0.mk hq; clear HQ hq; have HQ := n0_; clear n0_; have hc0 := cellS55_0 HQ.out.pi.1.1; have hc1 := cellS55_1 HQ.out.pi.1.1; have hc2 := cellS55_2 HQ.out.pi.1.1; have hc3 := cellS55_3 HQ.out.pi.1.1; have hc4 := cellS55_4 HQ.out.pi.1.1; have hf1 := blk_frozen HQ.out.pi.1.1 1; have hf2 := blk_frozen HQ.out.pi.1.1 2; have hf4 := blk_frozen HQ.out.pi.1.1 4)
          | (go_at_call 51; (with_reducible refine (add_q (x := ⟨2, false, ⟨#[]⟩, []⟩) HQ.out hP hl rfl).mono ?_); rintro e w9 ⟨rfl, v9, hq⟩; have n0_ := Aside0.mk hq; clear HQ hq; have HQ := n0_; clear n0_))
        go_ret
        exact ⟨rfl, _, HQ.out⟩
      · rw [if_neg c36] at H
        have c36b : (c == 36) = false := beq_eq_false_iff_ne.mpr c36
        by_cases c46 : c = 46
        · subst c46
          rw [if_pos rfl] at H
          obtain ⟨hl, rfl, rfl⟩ := iAdd_some H
          dsimp only at hl
          clear H
          go_enter Try.func54, Try.ntmps54
          go_wp2_with (first
            | (go_at_call 55; (with_reducible refine (next_q HQ.out HN.out).mono ?_); rintro e w9 ⟨rfl, hq⟩; have n0_ := Aside0.mk hq; clear HQ hq; have HQ := n0_; clear n0_; have hc0 := cellS55_0 HQ.out.pi.1.1; have hc1 := cellS55_1 HQ.out.pi.1.1; have hc2 := cellS55_2 HQ.out.pi.1.1; have hc3 := cellS55_3 HQ.out.pi.1.1; have hc4 := cellS55_4 HQ.out.pi.1.1; have hf1 := blk_frozen HQ.out.pi.1.1 1; have hf2 := blk_frozen HQ.out.pi.1.1 2; have hf4 := blk_frozen HQ.out.pi.1.1 4)
            | (go_at_call 51; (with_reducible refine (add_q (x := ⟨0, true, ⟨#[]⟩, []⟩) HQ.out hP hl rfl).mono ?_); rintro e w9 ⟨rfl, v9, hq⟩; have n0_ := Aside0.mk hq; clear HQ hq; have HQ := n0_; clear n0_))
          go_ret
          exact ⟨rfl, _, HQ.out⟩
        · rw [if_neg c46] at H
          have c46b : (c == 46) = false := beq_eq_false_iff_ne.mpr c46
          by_cases c91 : c = 91
          · subst c91
            rw [if_pos rfl] at H
            have H2 := Aside0.mk H
            clear H
            go_enter Try.func54, Try.ntmps54
            go_wp2_with (first
              | (go_at_call 55; (with_reducible refine (next_q HQ.out HN.out).mono ?_); rintro e w9 ⟨rfl, hq⟩; have n0_ := Aside0.mk hq; clear HQ hq; have HQ := n0_; clear n0_; have hc0 := cellS55_0 HQ.out.pi.1.1; have hc1 := cellS55_1 HQ.out.pi.1.1; have hc2 := cellS55_2 HQ.out.pi.1.1; have hc3 := cellS55_3 HQ.out.pi.1.1; have hc4 := cellS55_4 HQ.out.pi.1.1; have hf1 := blk_frozen HQ.out.pi.1.1 1; have hf2 := blk_frozen HQ.out.pi.1.1 2; have hf4 := blk_frozen HQ.out.pi.1.1 4)
              | (go_at_call 59; (with_reducible refine (class_q hP (σ := ⟨a1, σ.deep, σ.L, wr1⟩) HQ.out H2.out).mono ?_); rintro e w9 ⟨rfl, v9, hq⟩; have n0_ := Aside0.mk hq; clear HQ hq; have HQ := n0_; clear n0_))
            go_ret
            exact ⟨rfl, _, HQ.out⟩
          · rw [if_neg c91] at H
            have c91b : (c == 91) = false := beq_eq_false_iff_ne.mpr c91
            by_cases c92 : c = 92
            · subst c92
              rw [if_pos rfl] at H
              obtain ⟨⟨c2, a2, wr2⟩, hn2, H⟩ := Option.bind_eq_some_iff.mp H
              have HN2 := Aside0.mk hn2
              have H2 := Aside0.mk H
              clear H hn2
              dsimp only at HN2 H2
              go_enter Try.func54, Try.ntmps54
              go_wp2_with (first
                | (go_at_call 55; (with_reducible refine (next_q HQ.out HN.out).mono ?_); rintro e w9 ⟨rfl, hq⟩; have n0_ := Aside0.mk hq; clear HQ hq; have HQ := n0_; clear n0_; have hc0 := cellS55_0 HQ.out.pi.1.1; have hc1 := cellS55_1 HQ.out.pi.1.1; have hc2 := cellS55_2 HQ.out.pi.1.1; have hc3 := cellS55_3 HQ.out.pi.1.1; have hc4 := cellS55_4 HQ.out.pi.1.1; have hf1 := blk_frozen HQ.out.pi.1.1 1; have hf2 := blk_frozen HQ.out.pi.1.1 2; have hf4 := blk_frozen HQ.out.pi.1.1 4)
                | (go_at_call 55; (with_reducible refine (next_q HQ.out HN2.out).mono ?_); rintro e w9 ⟨rfl, hq⟩; have n0_ := Aside0.mk hq; clear HQ hq; have HQ := n0_; clear n0_; have hc0 := cellS55_0 HQ.out.pi.1.1; have hc1 := cellS55_1 HQ.out.pi.1.1; have hc2 := cellS55_2 HQ.out.pi.1.1; have hc3 := cellS55_3 HQ.out.pi.1.1; have hc4 := cellS55_4 HQ.out.pi.1.1; have hf1 := blk_frozen HQ.out.pi.1.1 1; have hf2 := blk_frozen HQ.out.pi.1.1 2; have hf4 := blk_frozen HQ.out.pi.1.1 4)
                | (go_at_call 60; (with_reducible refine (single_q hP (σ := ⟨a2, σ.deep, σ.L, wr2⟩) HQ.out H2.out).mono ?_); rintro e w9 ⟨rfl, v9, hq⟩; have n0_ := Aside0.mk hq; clear HQ hq; have HQ := n0_; clear n0_))
              go_ret
              exact ⟨rfl, _, HQ.out⟩
            · rw [if_neg c92] at H
              have c92b : (c == 92) = false := beq_eq_false_iff_ne.mpr c92
              by_cases c41 : c = 41
              · subst c41
                rw [if_pos rfl] at H
                simp only [Option.some.injEq, Prod.mk.injEq] at H
                obtain ⟨rfl, rfl⟩ := H
                go_enter Try.func54, Try.ntmps54
                go_wp2_with (first
                  | (go_at_call 55; (with_reducible refine (next_q HQ.out HN.out).mono ?_); rintro e w9 ⟨rfl, hq⟩; have n0_ := Aside0.mk hq; clear HQ hq; have HQ := n0_; clear n0_; have hc0 := cellS55_0 HQ.out.pi.1.1; have hc1 := cellS55_1 HQ.out.pi.1.1; have hc2 := cellS55_2 HQ.out.pi.1.1; have hc3 := cellS55_3 HQ.out.pi.1.1; have hc4 := cellS55_4 HQ.out.pi.1.1; have hf1 := blk_frozen HQ.out.pi.1.1 1; have hf2 := blk_frozen HQ.out.pi.1.1 2; have hf4 := blk_frozen HQ.out.pi.1.1 4))
                go_ret
                exact ⟨rfl, _, HQ.out.set4 true⟩
              · rw [if_neg c41] at H
                have c41b : (c == 41) = false := beq_eq_false_iff_ne.mpr c41
                by_cases c124 : c = 124
                · subst c124
                  rw [if_pos rfl] at H
                  simp only [Option.some.injEq, Prod.mk.injEq] at H
                  obtain ⟨rfl, rfl⟩ := H
                  go_enter Try.func54, Try.ntmps54
                  go_wp2_with (first
                    | (go_at_call 55; (with_reducible refine (next_q HQ.out HN.out).mono ?_); rintro e w9 ⟨rfl, hq⟩; have n0_ := Aside0.mk hq; clear HQ hq; have HQ := n0_; clear n0_; have hc0 := cellS55_0 HQ.out.pi.1.1; have hc1 := cellS55_1 HQ.out.pi.1.1; have hc2 := cellS55_2 HQ.out.pi.1.1; have hc3 := cellS55_3 HQ.out.pi.1.1; have hc4 := cellS55_4 HQ.out.pi.1.1; have hf1 := blk_frozen HQ.out.pi.1.1 1; have hf2 := blk_frozen HQ.out.pi.1.1 2; have hf4 := blk_frozen HQ.out.pi.1.1 4))
                  go_ret
                  exact ⟨rfl, _, HQ.out.set4 true⟩
                · rw [if_neg c124] at H
                  have c124b : (c == 124) = false := beq_eq_false_iff_ne.mpr c124
                  by_cases c42 : c = 42
                  · subst c42
                    rw [if_pos rfl] at H
                    simp only [Option.some.injEq, Prod.mk.injEq] at H
                    obtain ⟨rfl, rfl⟩ := H
                    go_enter Try.func54, Try.ntmps54
                    go_wp2_with (first
                      | (go_at_call 55; (with_reducible refine (next_q HQ.out HN.out).mono ?_); rintro e w9 ⟨rfl, hq⟩; have n0_ := Aside0.mk hq; clear HQ hq; have HQ := n0_; clear n0_; have hc0 := cellS55_0 HQ.out.pi.1.1; have hc1 := cellS55_1 HQ.out.pi.1.1; have hc2 := cellS55_2 HQ.out.pi.1.1; have hc3 := cellS55_3 HQ.out.pi.1.1; have hc4 := cellS55_4 HQ.out.pi.1.1; have hf1 := blk_frozen HQ.out.pi.1.1 1; have hf2 := blk_frozen HQ.out.pi.1.1 2; have hf4 := blk_frozen HQ.out.pi.1.1 4))
                    go_ret
                    exact ⟨rfl, _, HQ.out.set4 true⟩
                  · rw [if_neg c42] at H
                    have c42b : (c == 42) = false := beq_eq_false_iff_ne.mpr c42
                    by_cases c43 : c = 43
                    · subst c43
                      rw [if_pos rfl] at H
                      simp only [Option.some.injEq, Prod.mk.injEq] at H
                      obtain ⟨rfl, rfl⟩ := H
                      go_enter Try.func54, Try.ntmps54
                      go_wp2_with (first
                        | (go_at_call 55; (with_reducible refine (next_q HQ.out HN.out).mono ?_); rintro e w9 ⟨rfl, hq⟩; have n0_ := Aside0.mk hq; clear HQ hq; have HQ := n0_; clear n0_; have hc0 := cellS55_0 HQ.out.pi.1.1; have hc1 := cellS55_1 HQ.out.pi.1.1; have hc2 := cellS55_2 HQ.out.pi.1.1; have hc3 := cellS55_3 HQ.out.pi.1.1; have hc4 := cellS55_4 HQ.out.pi.1.1; have hf1 := blk_frozen HQ.out.pi.1.1 1; have hf2 := blk_frozen HQ.out.pi.1.1 2; have hf4 := blk_frozen HQ.out.pi.1.1 4))
                      go_ret
                      exact ⟨rfl, _, HQ.out.set4 true⟩
                    · rw [if_neg c43] at H
                      have c43b : (c == 43) = false := beq_eq_false_iff_ne.mpr c43
                      by_cases c63 : c = 63
                      · subst c63
                        rw [if_pos rfl] at H
                        simp only [Option.some.injEq, Prod.mk.injEq] at H
                        obtain ⟨rfl, rfl⟩ := H
                        go_enter Try.func54, Try.ntmps54
                        go_wp2_with (first
                          | (go_at_call 55; (with_reducible refine (next_q HQ.out HN.out).mono ?_); rintro e w9 ⟨rfl, hq⟩; have n0_ := Aside0.mk hq; clear HQ hq; have HQ := n0_; clear n0_; have hc0 := cellS55_0 HQ.out.pi.1.1; have hc1 := cellS55_1 HQ.out.pi.1.1; have hc2 := cellS55_2 HQ.out.pi.1.1; have hc3 := cellS55_3 HQ.out.pi.1.1; have hc4 := cellS55_4 HQ.out.pi.1.1; have hf1 := blk_frozen HQ.out.pi.1.1 1; have hf2 := blk_frozen HQ.out.pi.1.1 2; have hf4 := blk_frozen HQ.out.pi.1.1 4))
                        go_ret
                        exact ⟨rfl, _, HQ.out.set4 true⟩
                      · rw [if_neg c63] at H
                        have c63b : (c == 63) = false := beq_eq_false_iff_ne.mpr c63
                        by_cases c93 : c = 93
                        · subst c93
                          rw [if_pos rfl] at H
                          simp only [Option.some.injEq, Prod.mk.injEq] at H
                          obtain ⟨rfl, rfl⟩ := H
                          go_enter Try.func54, Try.ntmps54
                          go_wp2_with (first
                            | (go_at_call 55; (with_reducible refine (next_q HQ.out HN.out).mono ?_); rintro e w9 ⟨rfl, hq⟩; have n0_ := Aside0.mk hq; clear HQ hq; have HQ := n0_; clear n0_; have hc0 := cellS55_0 HQ.out.pi.1.1; have hc1 := cellS55_1 HQ.out.pi.1.1; have hc2 := cellS55_2 HQ.out.pi.1.1; have hc3 := cellS55_3 HQ.out.pi.1.1; have hc4 := cellS55_4 HQ.out.pi.1.1; have hf1 := blk_frozen HQ.out.pi.1.1 1; have hf2 := blk_frozen HQ.out.pi.1.1 2; have hf4 := blk_frozen HQ.out.pi.1.1 4))
                          go_ret
                          exact ⟨rfl, _, HQ.out.set4 true⟩
                        · rw [if_neg c93] at H
                          have c93b : (c == 93) = false := beq_eq_false_iff_ne.mpr c93
                          have H2 := Aside0.mk H
                          clear H
                          go_enter Try.func54, Try.ntmps54
                          go_wp2_with (first
                            | (go_at_call 55; (with_reducible refine (next_q HQ.out HN.out).mono ?_); rintro e w9 ⟨rfl, hq⟩; have n0_ := Aside0.mk hq; clear HQ hq; have HQ := n0_; clear n0_; have hc0 := cellS55_0 HQ.out.pi.1.1; have hc1 := cellS55_1 HQ.out.pi.1.1; have hc2 := cellS55_2 HQ.out.pi.1.1; have hc3 := cellS55_3 HQ.out.pi.1.1; have hc4 := cellS55_4 HQ.out.pi.1.1; have hf1 := blk_frozen HQ.out.pi.1.1 1; have hf2 := blk_frozen HQ.out.pi.1.1 2; have hf4 := blk_frozen HQ.out.pi.1.1 4)
                            | (go_at_call 60; (with_reducible refine (single_q hP (σ := ⟨a1, σ.deep, σ.L, wr1⟩) HQ.out H2.out).mono ?_); rintro e w9 ⟨rfl, v9, hq⟩; have n0_ := Aside0.mk hq; clear HQ hq; have HQ := n0_; clear n0_))
                          go_ret
                          exact ⟨rfl, _, HQ.out⟩
end Go.Proofs.Ytmddcohelcciaaa.PFnExactReParse.H
