/- whole. -/
import Derived.Test.YtmddcohelcciaaaLFnExactReParseW2
namespace Go.Proofs.Ytmddcohelcciaaa.PFnExactReParse.H
open Go.RowKit Go.Proofs.YtmddcohelcciaaaW.PrintWords Go.Proofs.YtmddcohelcciaaaW.PrintLast Go.Proofs.YtmddcohelcciaaaW.PrintMore
attribute [local go_sem] max2_int min2_int max_two min_two max_three min_three max_four min_four   -- for this text's walks alone
set_option linter.unusedVariables false
set_option linter.unusedSimpArgs false

set_option maxHeartbeats 8000000 in
set_option maxRecDepth 100000 in
theorem whole_q {s : ByteArray} {R : IS → Option (Int × IS)} (hR : DoesI 43 s R) (n : Nat) : DoesI 28 s (iWholeB s R n) := by
  intro P w0 w W g v σ r σ' hP hQ h
  have hu39 := Try.underlying39
  have hu35 := Try.underlying35
  have HQ := Aside0.mk hQ
  clear hQ
  unfold iWholeB at h
  obtain ⟨⟨k0, σ1⟩, h1, h⟩ := Option.bind_eq_some_iff.mp h
  have H' := Aside0.mk h
  clear h
  dsimp only at H'
  go_enter Try.func28, Try.ntmps28
  go_wp2_with (first
    | (go_at_call 43; (with_reducible refine (hR P w0 w _ g _ σ k0 σ1 hP HQ.out h1).mono ?_); rintro e w9 ⟨rfl, v9, hq⟩; have n0_ := Aside0.mk hq; clear HQ hq; have HQ := n0_; clear n0_)
    | ((with_reducible refine gate_dst (N := 6) rfl ?_); refine Kd.R_lit (Kd.int .i64) _ 3 ?hg (N := 6) ?hd (xs := ([k0] : List Int)) (inner := [.int .i64 k0]) (ok := fun _ => True) (okp := fun _ => True) ?hr ?hp (fun _ hk => hk) trivial (Below.refl _ _) (Nat.le_refl _) (by simp) ?_; (case hd => rfl); (case hg => rfl); (case hr => first | (go_simp; done) | (go_simp; rfl)); (case hp => exact (Reps.one (show Kd.M (Kd.int .i64) _ _ _ k0 [.int .i64 k0] from rfl) (Reps.none _ _))); intro kv0 w3 ho4 hb hg_ hnew_; have n0_ := Aside0.mk (QI.kids HQ.out hP ho4 hb hnew_); clear HQ ho4 hb hg_ hnew_; have HQ := n0_; clear n0_))
  go_loopg [3] n (fun kq v3 w' => ∃ (ks : List Int) (σ2 : IS) (v2 : Value), Aside0 (iWholeL s R kq ks σ2 = some (r, σ')) ∧ Aside0 (kq ≤ n) ∧ Aside0 (QKI P w0 w w' g s σ2.at_ σ2.deep v2 σ2.L σ2.wr v3 ks))
  case atStart => exact ⟨[k0], σ1, _, H', ⟨Nat.le_refl _⟩, HQ⟩
  case round =>
    clear H' HQ
    obtain ⟨ks, σ2, v2, HA, HK1, HQ⟩ := hrel
    cases gk with
    | zero => exact absurd HA.out (by simp [iWholeL])
    | succ k1 =>
      have H := HA.out
      clear HA
      obtain ⟨a2, d2, L2, wr2⟩ := σ2
      simp only [iWholeL] at H
      dsimp only at HQ
      cases wr2
      · rw [if_neg (by decide)] at H
        obtain ⟨b, hb1, H⟩ := Option.bind_eq_some_iff.mp H
        have HB1 := Aside0.mk hb1
        clear hb1
        cases b
        · rw [if_neg (by decide)] at H
          have hc0 := cellS55_0 HQ.out.pi.1.1
          have hc1 := cellS55_1 HQ.out.pi.1.1
          have hc2 := cellS55_2 HQ.out.pi.1.1
          have hc3 := cellS55_3 HQ.out.pi.1.1
          have hc4 := cellS55_4 HQ.out.pi.1.1
          have hf1 := blk_frozen HQ.out.pi.1.1 1
          go_wp2_with (first
            | (go_at_call 44; (with_reducible refine (sees_q HQ.out.give HB1.out).mono ?_); rintro e w9 ⟨rfl, hq⟩; have n0_ := Aside0.mk (HQ.out.back hq); clear HQ hq; have HQ := n0_; clear n0_)
            | (go_at_call 45; (with_reducible refine (joined_q hP HQ.out H).mono ?_); rintro e w9 ⟨rfl, v9, hq⟩; have n0_ := Aside0.mk hq; clear HQ hq; have HQ := n0_; clear n0_))
          go_ret
          exact ⟨rfl, _, HQ.out⟩
        · rw [if_pos rfl] at H
          by_cases c2 : ks.length < 100000
          · rw [if_pos c2] at H
            obtain ⟨⟨k4, σ4⟩, hn, H⟩ := Option.bind_eq_some_iff.mp H
            have HN := Aside0.mk hn
            have H' := Aside0.mk H
            clear hn H
            dsimp only at H'
            have hc0 := cellS55_0 HQ.out.pi.1.1
            have hc1 := cellS55_1 HQ.out.pi.1.1
            have hc2 := cellS55_2 HQ.out.pi.1.1
            have hc3 := cellS55_3 HQ.out.pi.1.1
            have hc4 := cellS55_4 HQ.out.pi.1.1
            have hf1 := blk_frozen HQ.out.pi.1.1 1
            go_wp2_with (first
              | (go_at_call 44; (with_reducible refine (sees_q HQ.out.give HB1.out).mono ?_); rintro e w9 ⟨rfl, hq⟩; have n0_ := Aside0.mk (HQ.out.back hq); clear HQ hq; have HQ := n0_; clear n0_; have hc0 := cellS55_0 HQ.out.pi.1.1; have hc1 := cellS55_1 HQ.out.pi.1.1; have hc2 := cellS55_2 HQ.out.pi.1.1; have hc3 := cellS55_3 HQ.out.pi.1.1; have hc4 := cellS55_4 HQ.out.pi.1.1; have hf1 := blk_frozen HQ.out.pi.1.1 1)
              | (go_at_call 43; (with_reducible refine (hR (fun k => P k ∧ some k ≠ u3.ownBlock) w0 _ _ g _ ⟨wrap64 (a2 + 1), d2, L2, false⟩ k4 σ4 ((HQ.out.set1 (wrap64 (a2 + 1))).freshP hP) (HQ.out.set1 (wrap64 (a2 + 1))).give HN.out).mono ?_); rintro e w9 ⟨rfl, v9, hq⟩; have n0_ := Aside0.mk ((HQ.out.set1 (wrap64 (a2 + 1))).back hq); clear HQ hq; have HQ := n0_; clear n0_)
              | ((with_reducible refine gate_builtin (b := .append) (xs := #[.tmp 23, .tmp 26]) rfl ?_); at_builtin; refine Kd.R_append (Kd.int .i64) (w0 := w0) w0.heap.size rfl (.tmp 23) (.tmp 26) 35 3 (.int .i64 0) 8 rfl Try.underlying35 info3 rfl (by decide) (by omega) u3 ks k4 [.int .i64 k4] (fun k => P k ∧ k ≠ g) (fun _ => False) rfl rfl ?aP (fun _ hk => hk.elim) ?aF HQ.out.kids HQ.out.below HQ.out.le ?aL ?_; (case aP => exact rfl); (case aF => exact (fun k hk => ⟨hP k (Nat.le_trans HQ.out.kept.1 hk), fun e => by have := HQ.out.pi.lt; omega⟩)); (case aL => omega); intro kv1 w12 ho hb hg hat; have n0_ := Aside0.mk (HQ.out.grown ho hb hg hat); clear HQ ho hb hg hat; have HQ := n0_; clear n0_))
            go_roundg k1
            case measure => have := HK1.out; omega
            case rel => exact ⟨_, _, _, H', ⟨by have := HK1.out; omega⟩, HQ⟩
          · rw [if_neg c2] at H
            cases H
      · rw [if_pos rfl] at H
        have hc0 := cellS55_0 HQ.out.pi.1.1
        have hc1 := cellS55_1 HQ.out.pi.1.1
        have hc2 := cellS55_2 HQ.out.pi.1.1
        have hc3 := cellS55_3 HQ.out.pi.1.1
        have hc4 := cellS55_4 HQ.out.pi.1.1
        have hf1 := blk_frozen HQ.out.pi.1.1 1
        go_wp2_with (first | (go_at_call 45; (with_reducible refine (joined_q hP HQ.out H).mono ?_); rintro e w9 ⟨rfl, v9, hq⟩; have n0_ := Aside0.mk hq; clear HQ hq; have HQ := n0_; clear n0_))
        go_ret
        exact ⟨rfl, _, HQ.out⟩
end Go.Proofs.Ytmddcohelcciaaa.PFnExactReParse.H
