/- l2seq, l2alt. -/
import Derived.Test.YtmddcohelcciaaaLFnExactReParseV1
namespace Go.Proofs.Ytmddcohelcciaaa.PFnExactReParse.H
open Go.RowKit Go.Proofs.YtmddcohelcciaaaW.PrintWords Go.Proofs.YtmddcohelcciaaaW.PrintLast Go.Proofs.YtmddcohelcciaaaW.PrintMore
attribute [local go_sem] max2_int min2_int max_two min_two max_three min_three max_four min_four   -- for this text's walks alone
set_option linter.unusedVariables false
set_option linter.unusedSimpArgs false
theorem info3s : (Try.prog.info? 3).map (fun i => (i.zero, i.size, i.bytes)) = some (some (.int .i64 0), 1, 8) := by kernel_rfl
set_option maxHeartbeats 8000000 in
set_option maxRecDepth 100000 in
theorem sseq_q {s : ByteArray} {deep : Int} {R : SS → Option (Int × SS)} (hR : DoesS 48 s deep R) (n : Nat) : DoesS 39 s deep (sSeq s R n) := by
  intro P w0 w W g v σ r σ' hP hQ h
  have hu39 := Try.underlying39
  have hu35 := Try.underlying35
  have HQ := Aside0.mk hQ
  clear hQ
  unfold sSeq at h
  obtain ⟨⟨k0, σ1⟩, h1, h⟩ := Option.bind_eq_some_iff.mp h
  have H' := Aside0.mk h
  clear h
  dsimp only at H'
  go_enter Try.func39, Try.ntmps39
  go_wp2_with (first
    | (go_at_call 48; (with_reducible refine (hR P w0 w _ g _ σ k0 σ1 hP HQ.out h1).mono ?_); rintro e w9 ⟨rfl, v9, hq⟩; have n0_ := Aside0.mk hq; clear HQ hq; have HQ := n0_; clear n0_)
    | ((with_reducible refine gate_dst (N := 9) rfl ?_); refine Kd.R_lit (Kd.int .i64) _ 3 ?hg (N := 9) ?hd (xs := ([k0] : List Int)) (inner := [.int .i64 k0]) (ok := fun _ => True) (okp := fun _ => True) ?hr ?hp (fun _ hk => hk) trivial (Below.refl _ _) (Nat.le_refl _) (by simp) ?_; (case hd => rfl); (case hg => rfl); (case hr => first | (go_simp; done) | (go_simp; rfl)); (case hp => exact (Reps.one (show Kd.M (Kd.int .i64) _ _ _ k0 [.int .i64 k0] from rfl) (Reps.none _ _))); intro kv0 w3 ho4 hb hg_ hnew_; have n0_ := Aside0.mk (QS.kids HQ.out hP ho4 hb hnew_); clear HQ ho4 hb hg_ hnew_; have HQ := n0_; clear n0_))
  go_loopg [5] n (fun kq v5 w' => ∃ (ks : List Int) (σ2 : SS) (v2 : Value), Aside0 (sSeqL s R kq ks σ2 = some (r, σ')) ∧ Aside0 (kq ≤ n) ∧ Aside0 (QKS P w0 w w' g s σ2.at_ v2 σ2.L σ2.wr v5 ks))
  case atStart => exact ⟨[k0], σ1, _, H', ⟨Nat.le_refl _⟩, HQ⟩
  case round =>
    clear H' HQ
    obtain ⟨ks, ⟨a2, L2, wr2⟩, v2, HA, HK1, HQ⟩ := hrel
    dsimp only at HQ
    cases gk with
    | zero => exact absurd HA.out (by simp [sSeqL])
    | succ k1 =>
      have H := HA.out
      clear HA
      simp only [sSeqL] at H
      have hc0 := cellS50_0 HQ.out.pi.1.1
      have hc1 := cellS50_1 HQ.out.pi.1.1
      have hc2 := cellS50_2 HQ.out.pi.1.1
      have hc3 := cellS50_3 HQ.out.pi.1.1
      have hf1 := blk_frozen HQ.out.pi.1.1 1
      have hf3 := blk_frozen HQ.out.pi.1.1 3
      cases wr2
      · rw [if_neg (by decide)] at H
        by_cases cm : sMore s a2 = true
        · rw [if_pos cm] at H
          obtain ⟨c, hp, H⟩ := Option.bind_eq_some_iff.mp H
          have HP := Aside0.mk hp
          clear hp
          by_cases c124 : c = 124
          · subst c124
            rw [if_pos rfl] at H
            unfold sJoined at H
            obtain ⟨A, cap, rfl⟩ := Kd.R_slice HQ.out.kids
            by_cases j1 : (ks.length : Int) = 1
            · rw [if_pos j1] at H
              simp only [Option.some.injEq, Prod.mk.injEq] at H
              obtain ⟨rfl, rfl⟩ := H
              have j1b0 : ((ks.length : Int) == 1) = true := beq_iff_eq.mpr j1
              go_upto_if 37 with (first
                | (go_at_call 40; (with_reducible refine (more_q HQ.out.give).mono ?_); rintro e w9 ⟨rfl, hq⟩; have n0_ := Aside0.mk (HQ.out.back hq); clear HQ hq; have HQ := n0_; clear n0_; have hc0 := cellS50_0 HQ.out.pi.1.1; have hc1 := cellS50_1 HQ.out.pi.1.1; have hc2 := cellS50_2 HQ.out.pi.1.1; have hc3 := cellS50_3 HQ.out.pi.1.1; have hf1 := blk_frozen HQ.out.pi.1.1 1; have hf3 := blk_frozen HQ.out.pi.1.1 3)
                | (go_at_call 41; (with_reducible refine (peek_q HQ.out.give HP.out).mono ?_); rintro e w9 ⟨rfl, hq⟩; have n0_ := Aside0.mk (HQ.out.back hq); clear HQ hq; have HQ := n0_; clear n0_; have hc0 := cellS50_0 HQ.out.pi.1.1; have hc1 := cellS50_1 HQ.out.pi.1.1; have hc2 := cellS50_2 HQ.out.pi.1.1; have hc3 := cellS50_3 HQ.out.pi.1.1; have hf1 := blk_frozen HQ.out.pi.1.1 1; have hf3 := blk_frozen HQ.out.pi.1.1 3))
              obtain ⟨hn, hcap, hC⟩ := Kd.R_reads' HQ.out.kids
              obtain ⟨ad, rfl, hc⟩ := Kd.at_int hC 0 (by omega) (by omega)
              have hk0 := (show ad.add (Int.toNat 0) = ad from by simp [Addr.add]) ▸ hc
              clear hc
              go_wp2
              go_ret
              exact ⟨rfl, _, HQ.out.drop⟩
            · rw [if_neg j1] at H
              obtain ⟨hl, rfl, rfl⟩ := sNode_some H
              dsimp only at hl
              clear H
              have j1b0 : ((ks.length : Int) == 1) = false := beq_eq_false_iff_ne.mpr j1
              go_wp2_with (first
                | (go_at_call 40; (with_reducible refine (more_q HQ.out.give).mono ?_); rintro e w9 ⟨rfl, hq⟩; have n0_ := Aside0.mk (HQ.out.back hq); clear HQ hq; have HQ := n0_; clear n0_; have hc0 := cellS50_0 HQ.out.pi.1.1; have hc1 := cellS50_1 HQ.out.pi.1.1; have hc2 := cellS50_2 HQ.out.pi.1.1; have hc3 := cellS50_3 HQ.out.pi.1.1; have hf1 := blk_frozen HQ.out.pi.1.1 1; have hf3 := blk_frozen HQ.out.pi.1.1 3)
                | (go_at_call 41; (with_reducible refine (peek_q HQ.out.give HP.out).mono ?_); rintro e w9 ⟨rfl, hq⟩; have n0_ := Aside0.mk (HQ.out.back hq); clear HQ hq; have HQ := n0_; clear n0_; have hc0 := cellS50_0 HQ.out.pi.1.1; have hc1 := cellS50_1 HQ.out.pi.1.1; have hc2 := cellS50_2 HQ.out.pi.1.1; have hc3 := cellS50_3 HQ.out.pi.1.1; have hf1 := blk_frozen HQ.out.pi.1.1 1; have hf3 := blk_frozen HQ.out.pi.1.1 3)
                | (go_at_call 42; (with_reducible refine (nodek_q (x := ⟨3, false, ⟨#[]⟩, ks⟩) HQ.out hP hl rfl).mono ?_); rintro e w9 ⟨rfl, v9, hq⟩; have n0_ := Aside0.mk hq; clear HQ hq; have HQ := n0_; clear n0_))
              go_ret
              exact ⟨rfl, _, HQ.out⟩
          · rw [if_neg c124] at H
            have c124b : (c == 124) = false := beq_eq_false_iff_ne.mpr c124
            have c124c : (c != 124) = true := bne_iff_ne.mpr c124
            by_cases c41 : c = 41
            · subst c41
              rw [if_pos rfl] at H
              unfold sJoined at H
              obtain ⟨A, cap, rfl⟩ := Kd.R_slice HQ.out.kids
              by_cases j1 : (ks.length : Int) = 1
              · rw [if_pos j1] at H
                simp only [Option.some.injEq, Prod.mk.injEq] at H
                obtain ⟨rfl, rfl⟩ := H
                have j1b0 : ((ks.length : Int) == 1) = true := beq_iff_eq.mpr j1
                go_upto_if 37 with (first
                  | (go_at_call 40; (with_reducible refine (more_q HQ.out.give).mono ?_); rintro e w9 ⟨rfl, hq⟩; have n0_ := Aside0.mk (HQ.out.back hq); clear HQ hq; have HQ := n0_; clear n0_; have hc0 := cellS50_0 HQ.out.pi.1.1; have hc1 := cellS50_1 HQ.out.pi.1.1; have hc2 := cellS50_2 HQ.out.pi.1.1; have hc3 := cellS50_3 HQ.out.pi.1.1; have hf1 := blk_frozen HQ.out.pi.1.1 1; have hf3 := blk_frozen HQ.out.pi.1.1 3)
                  | (go_at_call 41; (with_reducible refine (peek_q HQ.out.give HP.out).mono ?_); rintro e w9 ⟨rfl, hq⟩; have n0_ := Aside0.mk (HQ.out.back hq); clear HQ hq; have HQ := n0_; clear n0_; have hc0 := cellS50_0 HQ.out.pi.1.1; have hc1 := cellS50_1 HQ.out.pi.1.1; have hc2 := cellS50_2 HQ.out.pi.1.1; have hc3 := cellS50_3 HQ.out.pi.1.1; have hf1 := blk_frozen HQ.out.pi.1.1 1; have hf3 := blk_frozen HQ.out.pi.1.1 3))
                obtain ⟨hn, hcap, hC⟩ := Kd.R_reads' HQ.out.kids
                obtain ⟨ad, rfl, hc⟩ := Kd.at_int hC 0 (by omega) (by omega)
                have hk0 := (show ad.add (Int.toNat 0) = ad from by simp [Addr.add]) ▸ hc
                clear hc
                go_wp2
                go_ret
                exact ⟨rfl, _, HQ.out.drop⟩
              · rw [if_neg j1] at H
                obtain ⟨hl, rfl, rfl⟩ := sNode_some H
                dsimp only at hl
                clear H
                have j1b0 : ((ks.length : Int) == 1) = false := beq_eq_false_iff_ne.mpr j1
                go_wp2_with (first
                  | (go_at_call 40; (with_reducible refine (more_q HQ.out.give).mono ?_); rintro e w9 ⟨rfl, hq⟩; have n0_ := Aside0.mk (HQ.out.back hq); clear HQ hq; have HQ := n0_; clear n0_; have hc0 := cellS50_0 HQ.out.pi.1.1; have hc1 := cellS50_1 HQ.out.pi.1.1; have hc2 := cellS50_2 HQ.out.pi.1.1; have hc3 := cellS50_3 HQ.out.pi.1.1; have hf1 := blk_frozen HQ.out.pi.1.1 1; have hf3 := blk_frozen HQ.out.pi.1.1 3)
                  | (go_at_call 41; (with_reducible refine (peek_q HQ.out.give HP.out).mono ?_); rintro e w9 ⟨rfl, hq⟩; have n0_ := Aside0.mk (HQ.out.back hq); clear HQ hq; have HQ := n0_; clear n0_; have hc0 := cellS50_0 HQ.out.pi.1.1; have hc1 := cellS50_1 HQ.out.pi.1.1; have hc2 := cellS50_2 HQ.out.pi.1.1; have hc3 := cellS50_3 HQ.out.pi.1.1; have hf1 := blk_frozen HQ.out.pi.1.1 1; have hf3 := blk_frozen HQ.out.pi.1.1 3)
                  | (go_at_call 42; (with_reducible refine (nodek_q (x := ⟨3, false, ⟨#[]⟩, ks⟩) HQ.out hP hl rfl).mono ?_); rintro e w9 ⟨rfl, v9, hq⟩; have n0_ := Aside0.mk hq; clear HQ hq; have HQ := n0_; clear n0_))
                go_ret
                exact ⟨rfl, _, HQ.out⟩
            · rw [if_neg c41] at H
              have c41c : (c != 41) = true := bne_iff_ne.mpr c41
              by_cases c2 : ks.length < 100000
              · rw [if_pos c2] at H
                obtain ⟨⟨k4, σ4⟩, hn, H⟩ := Option.bind_eq_some_iff.mp H
                have HN := Aside0.mk hn
                have H' := Aside0.mk H
                clear hn H
                dsimp only at H'
                go_wp2_with (first
                  | (go_at_call 40; (with_reducible refine (more_q HQ.out.give).mono ?_); rintro e w9 ⟨rfl, hq⟩; have n0_ := Aside0.mk (HQ.out.back hq); clear HQ hq; have HQ := n0_; clear n0_; have hc0 := cellS50_0 HQ.out.pi.1.1; have hc1 := cellS50_1 HQ.out.pi.1.1; have hc2 := cellS50_2 HQ.out.pi.1.1; have hc3 := cellS50_3 HQ.out.pi.1.1; have hf1 := blk_frozen HQ.out.pi.1.1 1; have hf3 := blk_frozen HQ.out.pi.1.1 3)
                  | (go_at_call 41; (with_reducible refine (peek_q HQ.out.give HP.out).mono ?_); rintro e w9 ⟨rfl, hq⟩; have n0_ := Aside0.mk (HQ.out.back hq); clear HQ hq; have HQ := n0_; clear n0_; have hc0 := cellS50_0 HQ.out.pi.1.1; have hc1 := cellS50_1 HQ.out.pi.1.1; have hc2 := cellS50_2 HQ.out.pi.1.1; have hc3 := cellS50_3 HQ.out.pi.1.1; have hf1 := blk_frozen HQ.out.pi.1.1 1; have hf3 := blk_frozen HQ.out.pi.1.1 3)
                  | (go_at_call 48; (with_reducible refine (hR (fun k => P k ∧ some k ≠ u5.ownBlock) w0 _ _ g _ ⟨a2, L2, false⟩ k4 σ4 (HQ.out.freshP hP) HQ.out.give HN.out).mono ?_); rintro e w9 ⟨rfl, v9, hq⟩; have n0_ := Aside0.mk (HQ.out.back hq); clear HQ hq; have HQ := n0_; clear n0_)
                  | ((with_reducible refine gate_builtin (b := .append) (xs := #[.tmp 29, .tmp 33]) rfl ?_); at_builtin; refine Kd.R_append (Kd.int .i64) (w0 := w0) w0.heap.size rfl (.tmp 29) (.tmp 33) 35 3 (.int .i64 0) 8 rfl Try.underlying35 info3s rfl (by decide) (by omega) u5 ks k4 [.int .i64 k4] (fun k => P k ∧ k ≠ g) (fun _ => False) rfl rfl ?aP (fun _ hk => hk.elim) ?aF HQ.out.kids HQ.out.below HQ.out.le ?aL ?_; (case aP => exact rfl); (case aF => exact (fun k hk => ⟨hP k (Nat.le_trans HQ.out.kept.1 hk), fun e => by have := HQ.out.pi.lt; omega⟩)); (case aL => omega); intro kv1 w12 ho hb hg hat; have n0_ := Aside0.mk (HQ.out.grown ho hb hg hat); clear HQ ho hb hg hat; have HQ := n0_; clear n0_))
                go_roundg k1
                case measure => have := HK1.out; omega
                case rel => exact ⟨_, _, _, H', ⟨by have := HK1.out; omega⟩, HQ⟩
              · rw [if_neg c2] at H
                cases H
        · rw [if_neg cm] at H
          have cmb : sMore s a2 = false := by simpa using cm
          unfold sJoined at H
          obtain ⟨A, cap, rfl⟩ := Kd.R_slice HQ.out.kids
          by_cases j1 : (ks.length : Int) = 1
          · rw [if_pos j1] at H
            simp only [Option.some.injEq, Prod.mk.injEq] at H
            obtain ⟨rfl, rfl⟩ := H
            have j1b0 : ((ks.length : Int) == 1) = true := beq_iff_eq.mpr j1
            go_upto_if 37 with (first
              | (go_at_call 40; (with_reducible refine (more_q HQ.out.give).mono ?_); rintro e w9 ⟨rfl, hq⟩; have n0_ := Aside0.mk (HQ.out.back hq); clear HQ hq; have HQ := n0_; clear n0_; have hc0 := cellS50_0 HQ.out.pi.1.1; have hc1 := cellS50_1 HQ.out.pi.1.1; have hc2 := cellS50_2 HQ.out.pi.1.1; have hc3 := cellS50_3 HQ.out.pi.1.1; have hf1 := blk_frozen HQ.out.pi.1.1 1; have hf3 := blk_frozen HQ.out.pi.1.1 3)
              | (go_at_call 41; (with_reducible refine (peek_q HQ.out.give HP.out).mono ?_); rintro e w9 ⟨rfl, hq⟩; have n0_ := Aside0.mk (HQ.out.back hq); clear HQ hq; have HQ := n0_; clear n0_; have hc0 := cellS50_0 HQ.out.pi.1.1; have hc1 := cellS50_1 HQ.out.pi.1.1; have hc2 := cellS50_2 HQ.out.pi.1.1; have hc3 := cellS50_3 HQ.out.pi.1.1; have hf1 := blk_frozen HQ.out.pi.1.1 1; have hf3 := blk_frozen HQ.out.pi.1.1 3))
            obtain ⟨hn, hcap, hC⟩ := Kd.R_reads' HQ.out.kids
            obtain ⟨ad, rfl, hc⟩ := Kd.at_int hC 0 (by omega) (by omega)
            have hk0 := (show ad.add (Int.toNat 0) = ad from by simp [Addr.add]) ▸ hc
            clear hc
            go_wp2
            go_ret
            exact ⟨rfl, _, HQ.out.drop⟩
          · rw [if_neg j1] at H
            obtain ⟨hl, rfl, rfl⟩ := sNode_some H
            dsimp only at hl
            clear H
            have j1b0 : ((ks.length : Int) == 1) = false := beq_eq_false_iff_ne.mpr j1
            go_wp2_with (first
              | (go_at_call 40; (with_reducible refine (more_q HQ.out.give).mono ?_); rintro e w9 ⟨rfl, hq⟩; have n0_ := Aside0.mk (HQ.out.back hq); clear HQ hq; have HQ := n0_; clear n0_; have hc0 := cellS50_0 HQ.out.pi.1.1; have hc1 := cellS50_1 HQ.out.pi.1.1; have hc2 := cellS50_2 HQ.out.pi.1.1; have hc3 := cellS50_3 HQ.out.pi.1.1; have hf1 := blk_frozen HQ.out.pi.1.1 1; have hf3 := blk_frozen HQ.out.pi.1.1 3)
              | (go_at_call 41; (with_reducible refine (peek_q HQ.out.give HP.out).mono ?_); rintro e w9 ⟨rfl, hq⟩; have n0_ := Aside0.mk (HQ.out.back hq); clear HQ hq; have HQ := n0_; clear n0_; have hc0 := cellS50_0 HQ.out.pi.1.1; have hc1 := cellS50_1 HQ.out.pi.1.1; have hc2 := cellS50_2 HQ.out.pi.1.1; have hc3 := cellS50_3 HQ.out.pi.1.1; have hf1 := blk_frozen HQ.out.pi.1.1 1; have hf3 := blk_frozen HQ.out.pi.1.1 3)
              | (go_at_call 42; (with_reducible refine (nodek_q (x := ⟨3, false, ⟨#[]⟩, ks⟩) HQ.out hP hl rfl).mono ?_); rintro e w9 ⟨rfl, v9, hq⟩; have n0_ := Aside0.mk hq; clear HQ hq; have HQ := n0_; clear n0_))
            go_ret
            exact ⟨rfl, _, HQ.out⟩
      · rw [if_pos rfl] at H
        unfold sJoined at H
        obtain ⟨A, cap, rfl⟩ := Kd.R_slice HQ.out.kids
        by_cases j1 : (ks.length : Int) = 1
        · rw [if_pos j1] at H
          simp only [Option.some.injEq, Prod.mk.injEq] at H
          obtain ⟨rfl, rfl⟩ := H
          have j1b0 : ((ks.length : Int) == 1) = true := beq_iff_eq.mpr j1
          go_upto_if 37 with (first
            | (go_at_call 40; (with_reducible refine (more_q HQ.out.give).mono ?_); rintro e w9 ⟨rfl, hq⟩; have n0_ := Aside0.mk (HQ.out.back hq); clear HQ hq; have HQ := n0_; clear n0_; have hc0 := cellS50_0 HQ.out.pi.1.1; have hc1 := cellS50_1 HQ.out.pi.1.1; have hc2 := cellS50_2 HQ.out.pi.1.1; have hc3 := cellS50_3 HQ.out.pi.1.1; have hf1 := blk_frozen HQ.out.pi.1.1 1; have hf3 := blk_frozen HQ.out.pi.1.1 3)
            | (go_at_call 41; (with_reducible refine (peek_q HQ.out.give HP.out).mono ?_); rintro e w9 ⟨rfl, hq⟩; have n0_ := Aside0.mk (HQ.out.back hq); clear HQ hq; have HQ := n0_; clear n0_; have hc0 := cellS50_0 HQ.out.pi.1.1; have hc1 := cellS50_1 HQ.out.pi.1.1; have hc2 := cellS50_2 HQ.out.pi.1.1; have hc3 := cellS50_3 HQ.out.pi.1.1; have hf1 := blk_frozen HQ.out.pi.1.1 1; have hf3 := blk_frozen HQ.out.pi.1.1 3))
          obtain ⟨hn, hcap, hC⟩ := Kd.R_reads' HQ.out.kids
          obtain ⟨ad, rfl, hc⟩ := Kd.at_int hC 0 (by omega) (by omega)
          have hk0 := (show ad.add (Int.toNat 0) = ad from by simp [Addr.add]) ▸ hc
          clear hc
          go_wp2
          go_ret
          exact ⟨rfl, _, HQ.out.drop⟩
        · rw [if_neg j1] at H
          obtain ⟨hl, rfl, rfl⟩ := sNode_some H
          dsimp only at hl
          clear H
          have j1b0 : ((ks.length : Int) == 1) = false := beq_eq_false_iff_ne.mpr j1
          go_wp2_with (first
            | (go_at_call 40; (with_reducible refine (more_q HQ.out.give).mono ?_); rintro e w9 ⟨rfl, hq⟩; have n0_ := Aside0.mk (HQ.out.back hq); clear HQ hq; have HQ := n0_; clear n0_; have hc0 := cellS50_0 HQ.out.pi.1.1; have hc1 := cellS50_1 HQ.out.pi.1.1; have hc2 := cellS50_2 HQ.out.pi.1.1; have hc3 := cellS50_3 HQ.out.pi.1.1; have hf1 := blk_frozen HQ.out.pi.1.1 1; have hf3 := blk_frozen HQ.out.pi.1.1 3)
            | (go_at_call 41; (with_reducible refine (peek_q HQ.out.give HP.out).mono ?_); rintro e w9 ⟨rfl, hq⟩; have n0_ := Aside0.mk (HQ.out.back hq); clear HQ hq; have HQ := n0_; clear n0_; have hc0 := cellS50_0 HQ.out.pi.1.1; have hc1 := cellS50_1 HQ.out.pi.1.1; have hc2 := cellS50_2 HQ.out.pi.1.1; have hc3 := cellS50_3 HQ.out.pi.1.1; have hf1 := blk_frozen HQ.out.pi.1.1 1; have hf3 := blk_frozen HQ.out.pi.1.1 3)
            | (go_at_call 42; (with_reducible refine (nodek_q (x := ⟨3, false, ⟨#[]⟩, ks⟩) HQ.out hP hl rfl).mono ?_); rintro e w9 ⟨rfl, v9, hq⟩; have n0_ := Aside0.mk hq; clear HQ hq; have HQ := n0_; clear n0_))
          go_ret
          exact ⟨rfl, _, HQ.out⟩
set_option maxHeartbeats 8000000 in
set_option maxRecDepth 100000 in
theorem salt_q {s : ByteArray} {deep : Int} {R : SS → Option (Int × SS)} (hR : DoesS 39 s deep R) (n : Nat) : DoesS 27 s deep (sAltB s R n) := by
  intro P w0 w W g v σ r σ' hP hQ h
  have hu39 := Try.underlying39
  have hu35 := Try.underlying35
  have HQ := Aside0.mk hQ
  clear hQ
  unfold sAltB at h
  obtain ⟨⟨k0, σ1⟩, h1, h⟩ := Option.bind_eq_some_iff.mp h
  have H' := Aside0.mk h
  clear h
  dsimp only at H'
  go_enter Try.func27, Try.ntmps27
  go_wp2_with (first
    | (go_at_call 39; (with_reducible refine (hR P w0 w _ g _ σ k0 σ1 hP HQ.out h1).mono ?_); rintro e w9 ⟨rfl, v9, hq⟩; have n0_ := Aside0.mk hq; clear HQ hq; have HQ := n0_; clear n0_)
    | ((with_reducible refine gate_dst (N := 9) rfl ?_); refine Kd.R_lit (Kd.int .i64) _ 3 ?hg (N := 9) ?hd (xs := ([k0] : List Int)) (inner := [.int .i64 k0]) (ok := fun _ => True) (okp := fun _ => True) ?hr ?hp (fun _ hk => hk) trivial (Below.refl _ _) (Nat.le_refl _) (by simp) ?_; (case hd => rfl); (case hg => rfl); (case hr => first | (go_simp; done) | (go_simp; rfl)); (case hp => exact (Reps.one (show Kd.M (Kd.int .i64) _ _ _ k0 [.int .i64 k0] from rfl) (Reps.none _ _))); intro kv0 w3 ho4 hb hg_ hnew_; have n0_ := Aside0.mk (QS.kids HQ.out hP ho4 hb hnew_); clear HQ ho4 hb hg_ hnew_; have HQ := n0_; clear n0_))
  go_loopg [5] n (fun kq v5 w' => ∃ (ks : List Int) (σ2 : SS) (v2 : Value), Aside0 (sAltL s R kq ks σ2 = some (r, σ')) ∧ Aside0 (kq ≤ n) ∧ Aside0 (QKS P w0 w w' g s σ2.at_ v2 σ2.L σ2.wr v5 ks))
  case atStart => exact ⟨[k0], σ1, _, H', ⟨Nat.le_refl _⟩, HQ⟩
  case round =>
    clear H' HQ
    obtain ⟨ks, ⟨a2, L2, wr2⟩, v2, HA, HK1, HQ⟩ := hrel
    dsimp only at HQ
    cases gk with
    | zero => exact absurd HA.out (by simp [sAltL])
    | succ k1 =>
      have H := HA.out
      clear HA
      simp only [sAltL] at H
      have hc0 := cellS50_0 HQ.out.pi.1.1
      have hc1 := cellS50_1 HQ.out.pi.1.1
      have hc2 := cellS50_2 HQ.out.pi.1.1
      have hc3 := cellS50_3 HQ.out.pi.1.1
      have hf1 := blk_frozen HQ.out.pi.1.1 1
      have hf3 := blk_frozen HQ.out.pi.1.1 3
      cases wr2
      · rw [if_neg (by decide)] at H
        by_cases cm : sMore s a2 = true
        · rw [if_pos cm] at H
          obtain ⟨c, hp, H⟩ := Option.bind_eq_some_iff.mp H
          have HP := Aside0.mk hp
          clear hp
          by_cases c124 : c = 124
          · subst c124
            rw [if_pos rfl] at H
            by_cases c2 : ks.length < 100000
            · rw [if_pos c2] at H
              obtain ⟨⟨k4, σ4⟩, hn, H⟩ := Option.bind_eq_some_iff.mp H
              have HN := Aside0.mk hn
              have H' := Aside0.mk H
              clear hn H
              dsimp only at H'
              go_wp2_with (first
                | (go_at_call 40; (with_reducible refine (more_q HQ.out.give).mono ?_); rintro e w9 ⟨rfl, hq⟩; have n0_ := Aside0.mk (HQ.out.back hq); clear HQ hq; have HQ := n0_; clear n0_; have hc0 := cellS50_0 HQ.out.pi.1.1; have hc1 := cellS50_1 HQ.out.pi.1.1; have hc2 := cellS50_2 HQ.out.pi.1.1; have hc3 := cellS50_3 HQ.out.pi.1.1; have hf1 := blk_frozen HQ.out.pi.1.1 1; have hf3 := blk_frozen HQ.out.pi.1.1 3)
                | (go_at_call 41; (with_reducible refine (peek_q HQ.out.give HP.out).mono ?_); rintro e w9 ⟨rfl, hq⟩; have n0_ := Aside0.mk (HQ.out.back hq); clear HQ hq; have HQ := n0_; clear n0_; have hc0 := cellS50_0 HQ.out.pi.1.1; have hc1 := cellS50_1 HQ.out.pi.1.1; have hc2 := cellS50_2 HQ.out.pi.1.1; have hc3 := cellS50_3 HQ.out.pi.1.1; have hf1 := blk_frozen HQ.out.pi.1.1 1; have hf3 := blk_frozen HQ.out.pi.1.1 3)
                | (go_at_call 39; (with_reducible refine (hR (fun k => P k ∧ some k ≠ u5.ownBlock) w0 _ _ g _ ⟨wrap64 (a2 + 1), L2, false⟩ k4 σ4 ((HQ.out.set1 (wrap64 (a2 + 1))).freshP hP) (HQ.out.set1 (wrap64 (a2 + 1))).give HN.out).mono ?_); rintro e w9 ⟨rfl, v9, hq⟩; have n0_ := Aside0.mk ((HQ.out.set1 (wrap64 (a2 + 1))).back hq); clear HQ hq; have HQ := n0_; clear n0_)
                | ((with_reducible refine gate_builtin (b := .append) (xs := #[.tmp 31, .tmp 35]) rfl ?_); at_builtin; refine Kd.R_append (Kd.int .i64) (w0 := w0) w0.heap.size rfl (.tmp 31) (.tmp 35) 35 3 (.int .i64 0) 8 rfl Try.underlying35 info3s rfl (by decide) (by omega) u5 ks k4 [.int .i64 k4] (fun k => P k ∧ k ≠ g) (fun _ => False) rfl rfl ?aP (fun _ hk => hk.elim) ?aF HQ.out.kids HQ.out.below HQ.out.le ?aL ?_; (case aP => exact rfl); (case aF => exact (fun k hk => ⟨hP k (Nat.le_trans HQ.out.kept.1 hk), fun e => by have := HQ.out.pi.lt; omega⟩)); (case aL => omega); intro kv1 w12 ho hb hg hat; have n0_ := Aside0.mk (HQ.out.grown ho hb hg hat); clear HQ ho hb hg hat; have HQ := n0_; clear n0_))
              go_roundg k1
              case measure => have := HK1.out; omega
              case rel => exact ⟨_, _, _, H', ⟨by have := HK1.out; omega⟩, HQ⟩
            · rw [if_neg c2] at H
              cases H
          · rw [if_neg c124] at H
            have c124b : (c == 124) = false := beq_eq_false_iff_ne.mpr c124
            unfold sJoined at H
            obtain ⟨A, cap, rfl⟩ := Kd.R_slice HQ.out.kids
            by_cases j1 : (ks.length : Int) = 1
            · rw [if_pos j1] at H
              simp only [Option.some.injEq, Prod.mk.injEq] at H
              obtain ⟨rfl, rfl⟩ := H
              have j1b0 : ((ks.length : Int) == 1) = true := beq_iff_eq.mpr j1
              go_upto_if 39 with (first
                | (go_at_call 40; (with_reducible refine (more_q HQ.out.give).mono ?_); rintro e w9 ⟨rfl, hq⟩; have n0_ := Aside0.mk (HQ.out.back hq); clear HQ hq; have HQ := n0_; clear n0_; have hc0 := cellS50_0 HQ.out.pi.1.1; have hc1 := cellS50_1 HQ.out.pi.1.1; have hc2 := cellS50_2 HQ.out.pi.1.1; have hc3 := cellS50_3 HQ.out.pi.1.1; have hf1 := blk_frozen HQ.out.pi.1.1 1; have hf3 := blk_frozen HQ.out.pi.1.1 3)
                | (go_at_call 41; (with_reducible refine (peek_q HQ.out.give HP.out).mono ?_); rintro e w9 ⟨rfl, hq⟩; have n0_ := Aside0.mk (HQ.out.back hq); clear HQ hq; have HQ := n0_; clear n0_; have hc0 := cellS50_0 HQ.out.pi.1.1; have hc1 := cellS50_1 HQ.out.pi.1.1; have hc2 := cellS50_2 HQ.out.pi.1.1; have hc3 := cellS50_3 HQ.out.pi.1.1; have hf1 := blk_frozen HQ.out.pi.1.1 1; have hf3 := blk_frozen HQ.out.pi.1.1 3))
              obtain ⟨hn, hcap, hC⟩ := Kd.R_reads' HQ.out.kids
              obtain ⟨ad, rfl, hc⟩ := Kd.at_int hC 0 (by omega) (by omega)
              have hk0 := (show ad.add (Int.toNat 0) = ad from by simp [Addr.add]) ▸ hc
              clear hc
              go_wp2
              go_ret
              exact ⟨rfl, _, HQ.out.drop⟩
            · rw [if_neg j1] at H
              obtain ⟨hl, rfl, rfl⟩ := sNode_some H
              dsimp only at hl
              clear H
              have j1b0 : ((ks.length : Int) == 1) = false := beq_eq_false_iff_ne.mpr j1
              go_wp2_with (first
                | (go_at_call 40; (with_reducible refine (more_q HQ.out.give).mono ?_); rintro e w9 ⟨rfl, hq⟩; have n0_ := Aside0.mk (HQ.out.back hq); clear HQ hq; have HQ := n0_; clear n0_; have hc0 := cellS50_0 HQ.out.pi.1.1; have hc1 := cellS50_1 HQ.out.pi.1.1; have hc2 := cellS50_2 HQ.out.pi.1.1; have hc3 := cellS50_3 HQ.out.pi.1.1; have hf1 := blk_frozen HQ.out.pi.1.1 1; have hf3 := blk_frozen HQ.out.pi.1.1 3)
                | (go_at_call 41; (with_reducible refine (peek_q HQ.out.give HP.out).mono ?_); rintro e w9 ⟨rfl, hq⟩; have n0_ := Aside0.mk (HQ.out.back hq); clear HQ hq; have HQ := n0_; clear n0_; have hc0 := cellS50_0 HQ.out.pi.1.1; have hc1 := cellS50_1 HQ.out.pi.1.1; have hc2 := cellS50_2 HQ.out.pi.1.1; have hc3 := cellS50_3 HQ.out.pi.1.1; have hf1 := blk_frozen HQ.out.pi.1.1 1; have hf3 := blk_frozen HQ.out.pi.1.1 3)
                | (go_at_call 42; (with_reducible refine (nodek_q (x := ⟨4, false, ⟨#[]⟩, ks⟩) HQ.out hP hl rfl).mono ?_); rintro e w9 ⟨rfl, v9, hq⟩; have n0_ := Aside0.mk hq; clear HQ hq; have HQ := n0_; clear n0_))
              go_ret
              exact ⟨rfl, _, HQ.out⟩
        · rw [if_neg cm] at H
          have cmb : sMore s a2 = false := by simpa using cm
          unfold sJoined at H
          obtain ⟨A, cap, rfl⟩ := Kd.R_slice HQ.out.kids
          by_cases j1 : (ks.length : Int) = 1
          · rw [if_pos j1] at H
            simp only [Option.some.injEq, Prod.mk.injEq] at H
            obtain ⟨rfl, rfl⟩ := H
            have j1b0 : ((ks.length : Int) == 1) = true := beq_iff_eq.mpr j1
            go_upto_if 39 with (first
              | (go_at_call 40; (with_reducible refine (more_q HQ.out.give).mono ?_); rintro e w9 ⟨rfl, hq⟩; have n0_ := Aside0.mk (HQ.out.back hq); clear HQ hq; have HQ := n0_; clear n0_; have hc0 := cellS50_0 HQ.out.pi.1.1; have hc1 := cellS50_1 HQ.out.pi.1.1; have hc2 := cellS50_2 HQ.out.pi.1.1; have hc3 := cellS50_3 HQ.out.pi.1.1; have hf1 := blk_frozen HQ.out.pi.1.1 1; have hf3 := blk_frozen HQ.out.pi.1.1 3)
              | (go_at_call 41; (with_reducible refine (peek_q HQ.out.give HP.out).mono ?_); rintro e w9 ⟨rfl, hq⟩; have n0_ := Aside0.mk (HQ.out.back hq); clear HQ hq; have HQ := n0_; clear n0_; have hc0 := cellS50_0 HQ.out.pi.1.1; have hc1 := cellS50_1 HQ.out.pi.1.1; have hc2 := cellS50_2 HQ.out.pi.1.1; have hc3 := cellS50_3 HQ.out.pi.1.1; have hf1 := blk_frozen HQ.out.pi.1.1 1; have hf3 := blk_frozen HQ.out.pi.1.1 3))
            obtain ⟨hn, hcap, hC⟩ := Kd.R_reads' HQ.out.kids
            obtain ⟨ad, rfl, hc⟩ := Kd.at_int hC 0 (by omega) (by omega)
            have hk0 := (show ad.add (Int.toNat 0) = ad from by simp [Addr.add]) ▸ hc
            clear hc
            go_wp2
            go_ret
            exact ⟨rfl, _, HQ.out.drop⟩
          · rw [if_neg j1] at H
            obtain ⟨hl, rfl, rfl⟩ := sNode_some H
            dsimp only at hl
            clear H
            have j1b0 : ((ks.length : Int) == 1) = false := beq_eq_false_iff_ne.mpr j1
            go_wp2_with (first
              | (go_at_call 40; (with_reducible refine (more_q HQ.out.give).mono ?_); rintro e w9 ⟨rfl, hq⟩; have n0_ := Aside0.mk (HQ.out.back hq); clear HQ hq; have HQ := n0_; clear n0_; have hc0 := cellS50_0 HQ.out.pi.1.1; have hc1 := cellS50_1 HQ.out.pi.1.1; have hc2 := cellS50_2 HQ.out.pi.1.1; have hc3 := cellS50_3 HQ.out.pi.1.1; have hf1 := blk_frozen HQ.out.pi.1.1 1; have hf3 := blk_frozen HQ.out.pi.1.1 3)
              | (go_at_call 41; (with_reducible refine (peek_q HQ.out.give HP.out).mono ?_); rintro e w9 ⟨rfl, hq⟩; have n0_ := Aside0.mk (HQ.out.back hq); clear HQ hq; have HQ := n0_; clear n0_; have hc0 := cellS50_0 HQ.out.pi.1.1; have hc1 := cellS50_1 HQ.out.pi.1.1; have hc2 := cellS50_2 HQ.out.pi.1.1; have hc3 := cellS50_3 HQ.out.pi.1.1; have hf1 := blk_frozen HQ.out.pi.1.1 1; have hf3 := blk_frozen HQ.out.pi.1.1 3)
              | (go_at_call 42; (with_reducible refine (nodek_q (x := ⟨4, false, ⟨#[]⟩, ks⟩) HQ.out hP hl rfl).mono ?_); rintro e w9 ⟨rfl, v9, hq⟩; have n0_ := Aside0.mk hq; clear HQ hq; have HQ := n0_; clear n0_))
            go_ret
            exact ⟨rfl, _, HQ.out⟩
      · rw [if_pos rfl] at H
        unfold sJoined at H
        obtain ⟨A, cap, rfl⟩ := Kd.R_slice HQ.out.kids
        by_cases j1 : (ks.length : Int) = 1
        · rw [if_pos j1] at H
          simp only [Option.some.injEq, Prod.mk.injEq] at H
          obtain ⟨rfl, rfl⟩ := H
          have j1b0 : ((ks.length : Int) == 1) = true := beq_iff_eq.mpr j1
          go_upto_if 39 with (first
            | (go_at_call 40; (with_reducible refine (more_q HQ.out.give).mono ?_); rintro e w9 ⟨rfl, hq⟩; have n0_ := Aside0.mk (HQ.out.back hq); clear HQ hq; have HQ := n0_; clear n0_; have hc0 := cellS50_0 HQ.out.pi.1.1; have hc1 := cellS50_1 HQ.out.pi.1.1; have hc2 := cellS50_2 HQ.out.pi.1.1; have hc3 := cellS50_3 HQ.out.pi.1.1; have hf1 := blk_frozen HQ.out.pi.1.1 1; have hf3 := blk_frozen HQ.out.pi.1.1 3)
            | (go_at_call 41; (with_reducible refine (peek_q HQ.out.give HP.out).mono ?_); rintro e w9 ⟨rfl, hq⟩; have n0_ := Aside0.mk (HQ.out.back hq); clear HQ hq; have HQ := n0_; clear n0_; have hc0 := cellS50_0 HQ.out.pi.1.1; have hc1 := cellS50_1 HQ.out.pi.1.1; have hc2 := cellS50_2 HQ.out.pi.1.1; have hc3 := cellS50_3 HQ.out.pi.1.1; have hf1 := blk_frozen HQ.out.pi.1.1 1; have hf3 := blk_frozen HQ.out.pi.1.1 3))
          obtain ⟨hn, hcap, hC⟩ := Kd.R_reads' HQ.out.kids
          obtain ⟨ad, rfl, hc⟩ := Kd.at_int hC 0 (by omega) (by omega)
          have hk0 := (show ad.add (Int.toNat 0) = ad from by simp [Addr.add]) ▸ hc
          clear hc
          go_wp2
          go_ret
          exact ⟨rfl, _, HQ.out.drop⟩
        · rw [if_neg j1] at H
          obtain ⟨hl, rfl, rfl⟩ := sNode_some H
          dsimp only at hl
          clear H
          have j1b0 : ((ks.length : Int) == 1) = false := beq_eq_false_iff_ne.mpr j1
          go_wp2_with (first
            | (go_at_call 40; (with_reducible refine (more_q HQ.out.give).mono ?_); rintro e w9 ⟨rfl, hq⟩; have n0_ := Aside0.mk (HQ.out.back hq); clear HQ hq; have HQ := n0_; clear n0_; have hc0 := cellS50_0 HQ.out.pi.1.1; have hc1 := cellS50_1 HQ.out.pi.1.1; have hc2 := cellS50_2 HQ.out.pi.1.1; have hc3 := cellS50_3 HQ.out.pi.1.1; have hf1 := blk_frozen HQ.out.pi.1.1 1; have hf3 := blk_frozen HQ.out.pi.1.1 3)
            | (go_at_call 41; (with_reducible refine (peek_q HQ.out.give HP.out).mono ?_); rintro e w9 ⟨rfl, hq⟩; have n0_ := Aside0.mk (HQ.out.back hq); clear HQ hq; have HQ := n0_; clear n0_; have hc0 := cellS50_0 HQ.out.pi.1.1; have hc1 := cellS50_1 HQ.out.pi.1.1; have hc2 := cellS50_2 HQ.out.pi.1.1; have hc3 := cellS50_3 HQ.out.pi.1.1; have hf1 := blk_frozen HQ.out.pi.1.1 1; have hf3 := blk_frozen HQ.out.pi.1.1 3)
            | (go_at_call 42; (with_reducible refine (nodek_q (x := ⟨4, false, ⟨#[]⟩, ks⟩) HQ.out hP hl rfl).mono ?_); rintro e w9 ⟨rfl, v9, hq⟩; have n0_ := Aside0.mk hq; clear HQ hq; have HQ := n0_; clear n0_))
          go_ret
          exact ⟨rfl, _, HQ.out⟩
end Go.Proofs.Ytmddcohelcciaaa.PFnExactReParse.H
