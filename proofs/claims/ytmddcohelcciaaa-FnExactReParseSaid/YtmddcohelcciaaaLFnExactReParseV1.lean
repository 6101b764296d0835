/- l2rep. -/
import Derived.Test.YtmddcohelcciaaaLFnExactReParseW1
namespace Go.Proofs.Ytmddcohelcciaaa.PFnExactReParse.H
open Go.RowKit Go.Proofs.YtmddcohelcciaaaW.PrintWords Go.Proofs.YtmddcohelcciaaaW.PrintLast Go.Proofs.YtmddcohelcciaaaW.PrintMore
attribute [local go_sem] max2_int min2_int max_two min_two max_three min_three max_four min_four   -- for this text's walks alone
set_option linter.unusedVariables false
set_option linter.unusedSimpArgs false

set_option maxHeartbeats 8000000 in
set_option maxRecDepth 100000 in
theorem srep_q {s : ByteArray} {deep : Int} {A : SS → Option (Int × SS)} (hA : DoesS 53 s deep A) (n : Nat) : DoesS 48 s deep (sRep s A n) := by
  intro P w0 w W g v σ r σ' hP hQ h
  have hu39 := Try.underlying39
  have HQ := Aside0.mk hQ
  clear hQ
  unfold sRep at h
  obtain ⟨⟨k0, σ1⟩, h1, h⟩ := Option.bind_eq_some_iff.mp h
  have H' := Aside0.mk h
  clear h
  dsimp only at H'
  go_enter Try.func48, Try.ntmps48
  go_wp2_with (first | (go_at_call 53; (with_reducible refine (hA P w0 w _ g _ σ k0 σ1 hP HQ.out h1).mono ?_); rintro e w9 ⟨rfl, v9, hq⟩; have n0_ := Aside0.mk hq; clear HQ hq; have HQ := n0_; clear n0_))
  go_loopg [5] n (fun kq v5 w' => ∃ (out : Int) (σ2 : SS) (v2 : Value), v5 = .int .i64 out ∧ Aside0 (sRepL s kq out σ2 = some (r, σ')) ∧ Aside0 (kq ≤ n) ∧ Aside0 (QS P w0 w w' g s σ2.at_ v2 σ2.L σ2.wr))
  case atStart => exact ⟨k0, σ1, _, rfl, H', ⟨Nat.le_refl _⟩, HQ⟩
  case round =>
    clear H' HQ
    obtain ⟨out, ⟨a2, L2, wr2⟩, v2, rfl, HA, HK1, HQ⟩ := hrel
    dsimp only at HQ
    cases gk with
    | zero => exact absurd HA.out (by simp [sRepL])
    | succ k1 =>
      have H := HA.out
      clear HA
      simp only [sRepL] at H
      have hc0 := cellS50_0 HQ.out.pi.1.1
      have hc1 := cellS50_1 HQ.out.pi.1.1
      have hc2 := cellS50_2 HQ.out.pi.1.1
      have hc3 := cellS50_3 HQ.out.pi.1.1
      have hf1 := blk_frozen HQ.out.pi.1.1 1
      have hf3 := blk_frozen HQ.out.pi.1.1 3
      cases wr2
      · rw [if_neg (by decide)] at H
        by_cases cm : sMore s a2 = true
        · rw [if_pos cm] at H
          obtain ⟨c, hp, H⟩ := Option.bind_eq_some_iff.mp H
          obtain ⟨b, hh, H⟩ := Option.bind_eq_some_iff.mp H
          have HP := Aside0.mk hp
          have HH := Aside0.mk (show spec_l2has.f 10 ⟨#[42, 43, 63]⟩ c = some b from hh)
          clear hp hh
          cases b
          · rw [if_neg (by decide)] at H
            simp only [Option.some.injEq, Prod.mk.injEq] at H
            obtain ⟨rfl, rfl⟩ := H
            go_wp2_with (first
              | (go_at_call 40; (with_reducible refine (more_q (by repeat (first | (with_reducible first | exact HQ.out | apply QS.drewN) | exact HQ.out))).mono ?_); rintro e w9 ⟨rfl, hq⟩; have n0_ := Aside0.mk hq; clear HQ hq; have HQ := n0_; clear n0_; have hc0 := cellS50_0 HQ.out.pi.1.1; have hc1 := cellS50_1 HQ.out.pi.1.1; have hc2 := cellS50_2 HQ.out.pi.1.1; have hc3 := cellS50_3 HQ.out.pi.1.1; have hf1 := blk_frozen HQ.out.pi.1.1 1; have hf3 := blk_frozen HQ.out.pi.1.1 3)
              | (go_at_call 41; (with_reducible refine (peek_q (by repeat (first | (with_reducible first | exact HQ.out | apply QS.drewN) | exact HQ.out)) HP.out).mono ?_); rintro e w9 ⟨rfl, hq⟩; have n0_ := Aside0.mk hq; clear HQ hq; have HQ := n0_; clear n0_; have hc0 := cellS50_0 HQ.out.pi.1.1; have hc1 := cellS50_1 HQ.out.pi.1.1; have hc2 := cellS50_2 HQ.out.pi.1.1; have hc3 := cellS50_3 HQ.out.pi.1.1; have hf1 := blk_frozen HQ.out.pi.1.1 1; have hf3 := blk_frozen HQ.out.pi.1.1 3)
              | (go_at_call 52; (with_reducible refine (spec_l2has.calls 10 ⟨#[42, 43, 63]⟩ _ false _ HH.out).mono ?_); rintro e w' ⟨rfl, ⟨nd, rfl⟩⟩))
            go_ret
            exact ⟨rfl, _, (by repeat (first | (with_reducible first | exact HQ.out | apply QS.alloc | apply QS.drewN | apply QS.drew | apply QS.set1) | exact HQ.out))⟩
          · rw [if_pos rfl] at H
            obtain ⟨⟨k4, σ4⟩, hadd, H⟩ := Option.bind_eq_some_iff.mp H
            obtain ⟨hl, rfl, rfl⟩ := sNode_some hadd
            have H' := Aside0.mk H
            clear hadd H
            dsimp only at H' hl
            by_cases c43 : c = 43
            · subst c43
              rw [show sKind 43 = 6 from rfl] at H'
              go_wp2_with (first
                | (go_at_call 40; (with_reducible refine (more_q (by repeat (first | (with_reducible first | exact HQ.out | apply QS.drewN) | exact HQ.out))).mono ?_); rintro e w9 ⟨rfl, hq⟩; have n0_ := Aside0.mk hq; clear HQ hq; have HQ := n0_; clear n0_; have hc0 := cellS50_0 HQ.out.pi.1.1; have hc1 := cellS50_1 HQ.out.pi.1.1; have hc2 := cellS50_2 HQ.out.pi.1.1; have hc3 := cellS50_3 HQ.out.pi.1.1; have hf1 := blk_frozen HQ.out.pi.1.1 1; have hf3 := blk_frozen HQ.out.pi.1.1 3)
                | (go_at_call 41; (with_reducible refine (peek_q (by repeat (first | (with_reducible first | exact HQ.out | apply QS.drewN) | exact HQ.out)) HP.out).mono ?_); rintro e w9 ⟨rfl, hq⟩; have n0_ := Aside0.mk hq; clear HQ hq; have HQ := n0_; clear n0_; have hc0 := cellS50_0 HQ.out.pi.1.1; have hc1 := cellS50_1 HQ.out.pi.1.1; have hc2 := cellS50_2 HQ.out.pi.1.1; have hc3 := cellS50_3 HQ.out.pi.1.1; have hf1 := blk_frozen HQ.out.pi.1.1 1; have hf3 := blk_frozen HQ.out.pi.1.1 3)
                | (go_at_call 52; (with_reducible refine (spec_l2has.calls 10 ⟨#[42, 43, 63]⟩ _ true _ HH.out).mono ?_); rintro e w' ⟨rfl, ⟨nd, rfl⟩⟩)
                | ((with_reducible refine gate_dst (N := 40) rfl ?_); refine Kd.R_lit (Kd.int .i64) _ 3 ?hg (N := 40) ?hd (xs := ([out] : List Int)) (inner := [.int .i64 out]) (ok := fun _ => True) (okp := fun _ => True) ?hr ?hp (fun _ hk => hk) trivial (Below.refl _ _) (Nat.le_refl _) (by simp) ?_; (case hd => rfl); (case hg => rfl); (case hr => first | (go_simp; done) | (go_simp; rfl)); (case hp => exact (Reps.one (show Kd.M (Kd.int .i64) _ _ _ out [.int .i64 out] from rfl) (Reps.none _ _))); intro kv w3 ho4 hb hg_ hnew_; obtain ⟨A3, cap3, rfl⟩ := Kd.R_slice ho4; have n0_ := Aside0.mk (show QKS P w0 w w3 g s _ _ _ _ (.slice A3 1 cap3) [out] from QS.kids (by repeat (first | (with_reducible first | exact HQ.out | apply QS.alloc | apply QS.drewN | apply QS.drew | apply QS.set1) | exact HQ.out)) hP ho4 hb hnew_); clear HQ ho4 hb hg_ hnew_; have HQ := n0_; clear n0_)
                | (go_at_call 42; (with_reducible refine (nodek_q (x := ⟨6, false, ⟨#[]⟩, [out]⟩) HQ.out hP hl rfl).mono ?_); rintro e w9 ⟨rfl, v9, hq⟩; have n0_ := Aside0.mk hq; clear HQ hq; have HQ := n0_; clear n0_))
              go_roundg k1
              case measure => have := HK1.out; omega
              case rel => exact ⟨_, _, _, rfl, H', ⟨by have := HK1.out; omega⟩, HQ⟩
            · have c43b : (c == 43) = false := beq_eq_false_iff_ne.mpr c43
              by_cases c63 : c = 63
              · subst c63
                rw [show sKind 63 = 7 from rfl] at H'
                go_wp2_with (first
                  | (go_at_call 40; (with_reducible refine (more_q (by repeat (first | (with_reducible first | exact HQ.out | apply QS.drewN) | exact HQ.out))).mono ?_); rintro e w9 ⟨rfl, hq⟩; have n0_ := Aside0.mk hq; clear HQ hq; have HQ := n0_; clear n0_; have hc0 := cellS50_0 HQ.out.pi.1.1; have hc1 := cellS50_1 HQ.out.pi.1.1; have hc2 := cellS50_2 HQ.out.pi.1.1; have hc3 := cellS50_3 HQ.out.pi.1.1; have hf1 := blk_frozen HQ.out.pi.1.1 1; have hf3 := blk_frozen HQ.out.pi.1.1 3)
                  | (go_at_call 41; (with_reducible refine (peek_q (by repeat (first | (with_reducible first | exact HQ.out | apply QS.drewN) | exact HQ.out)) HP.out).mono ?_); rintro e w9 ⟨rfl, hq⟩; have n0_ := Aside0.mk hq; clear HQ hq; have HQ := n0_; clear n0_; have hc0 := cellS50_0 HQ.out.pi.1.1; have hc1 := cellS50_1 HQ.out.pi.1.1; have hc2 := cellS50_2 HQ.out.pi.1.1; have hc3 := cellS50_3 HQ.out.pi.1.1; have hf1 := blk_frozen HQ.out.pi.1.1 1; have hf3 := blk_frozen HQ.out.pi.1.1 3)
                  | (go_at_call 52; (with_reducible refine (spec_l2has.calls 10 ⟨#[42, 43, 63]⟩ _ true _ HH.out).mono ?_); rintro e w' ⟨rfl, ⟨nd, rfl⟩⟩)
                  | ((with_reducible refine gate_dst (N := 40) rfl ?_); refine Kd.R_lit (Kd.int .i64) _ 3 ?hg (N := 40) ?hd (xs := ([out] : List Int)) (inner := [.int .i64 out]) (ok := fun _ => True) (okp := fun _ => True) ?hr ?hp (fun _ hk => hk) trivial (Below.refl _ _) (Nat.le_refl _) (by simp) ?_; (case hd => rfl); (case hg => rfl); (case hr => first | (go_simp; done) | (go_simp; rfl)); (case hp => exact (Reps.one (show Kd.M (Kd.int .i64) _ _ _ out [.int .i64 out] from rfl) (Reps.none _ _))); intro kv w3 ho4 hb hg_ hnew_; obtain ⟨A3, cap3, rfl⟩ := Kd.R_slice ho4; have n0_ := Aside0.mk (show QKS P w0 w w3 g s _ _ _ _ (.slice A3 1 cap3) [out] from QS.kids (by repeat (first | (with_reducible first | exact HQ.out | apply QS.alloc | apply QS.drewN | apply QS.drew | apply QS.set1) | exact HQ.out)) hP ho4 hb hnew_); clear HQ ho4 hb hg_ hnew_; have HQ := n0_; clear n0_)
                  | (go_at_call 42; (with_reducible refine (nodek_q (x := ⟨7, false, ⟨#[]⟩, [out]⟩) HQ.out hP hl rfl).mono ?_); rintro e w9 ⟨rfl, v9, hq⟩; have n0_ := Aside0.mk hq; clear HQ hq; have HQ := n0_; clear n0_))
                go_roundg k1
                case measure => have := HK1.out; omega
                case rel => exact ⟨_, _, _, rfl, H', ⟨by have := HK1.out; omega⟩, HQ⟩
              · have c63b : (c == 63) = false := beq_eq_false_iff_ne.mpr c63
                rw [show sKind c = 5 from by unfold sKind; rw [if_neg c43, if_neg c63]] at H'
                go_wp2_with (first
                  | (go_at_call 40; (with_reducible refine (more_q (by repeat (first | (with_reducible first | exact HQ.out | apply QS.drewN) | exact HQ.out))).mono ?_); rintro e w9 ⟨rfl, hq⟩; have n0_ := Aside0.mk hq; clear HQ hq; have HQ := n0_; clear n0_; have hc0 := cellS50_0 HQ.out.pi.1.1; have hc1 := cellS50_1 HQ.out.pi.1.1; have hc2 := cellS50_2 HQ.out.pi.1.1; have hc3 := cellS50_3 HQ.out.pi.1.1; have hf1 := blk_frozen HQ.out.pi.1.1 1; have hf3 := blk_frozen HQ.out.pi.1.1 3)
                  | (go_at_call 41; (with_reducible refine (peek_q (by repeat (first | (with_reducible first | exact HQ.out | apply QS.drewN) | exact HQ.out)) HP.out).mono ?_); rintro e w9 ⟨rfl, hq⟩; have n0_ := Aside0.mk hq; clear HQ hq; have HQ := n0_; clear n0_; have hc0 := cellS50_0 HQ.out.pi.1.1; have hc1 := cellS50_1 HQ.out.pi.1.1; have hc2 := cellS50_2 HQ.out.pi.1.1; have hc3 := cellS50_3 HQ.out.pi.1.1; have hf1 := blk_frozen HQ.out.pi.1.1 1; have hf3 := blk_frozen HQ.out.pi.1.1 3)
                  | (go_at_call 52; (with_reducible refine (spec_l2has.calls 10 ⟨#[42, 43, 63]⟩ _ true _ HH.out).mono ?_); rintro e w' ⟨rfl, ⟨nd, rfl⟩⟩)
                  | ((with_reducible refine gate_dst (N := 40) rfl ?_); refine Kd.R_lit (Kd.int .i64) _ 3 ?hg (N := 40) ?hd (xs := ([out] : List Int)) (inner := [.int .i64 out]) (ok := fun _ => True) (okp := fun _ => True) ?hr ?hp (fun _ hk => hk) trivial (Below.refl _ _) (Nat.le_refl _) (by simp) ?_; (case hd => rfl); (case hg => rfl); (case hr => first | (go_simp; done) | (go_simp; rfl)); (case hp => exact (Reps.one (show Kd.M (Kd.int .i64) _ _ _ out [.int .i64 out] from rfl) (Reps.none _ _))); intro kv w3 ho4 hb hg_ hnew_; obtain ⟨A3, cap3, rfl⟩ := Kd.R_slice ho4; have n0_ := Aside0.mk (show QKS P w0 w w3 g s _ _ _ _ (.slice A3 1 cap3) [out] from QS.kids (by repeat (first | (with_reducible first | exact HQ.out | apply QS.alloc | apply QS.drewN | apply QS.drew | apply QS.set1) | exact HQ.out)) hP ho4 hb hnew_); clear HQ ho4 hb hg_ hnew_; have HQ := n0_; clear n0_)
                  | (go_at_call 42; (with_reducible refine (nodek_q (x := ⟨5, false, ⟨#[]⟩, [out]⟩) HQ.out hP hl rfl).mono ?_); rintro e w9 ⟨rfl, v9, hq⟩; have n0_ := Aside0.mk hq; clear HQ hq; have HQ := n0_; clear n0_))
                go_roundg k1
                case measure => have := HK1.out; omega
                case rel => exact ⟨_, _, _, rfl, H', ⟨by have := HK1.out; omega⟩, HQ⟩
        · rw [if_neg cm] at H
          have cmb : sMore s a2 = false := by simpa using cm
          simp only [Option.some.injEq, Prod.mk.injEq] at H
          obtain ⟨rfl, rfl⟩ := H
          go_wp2_with (first
            | (go_at_call 40; (with_reducible refine (more_q (by repeat (first | (with_reducible first | exact HQ.out | apply QS.drewN) | exact HQ.out))).mono ?_); rintro e w9 ⟨rfl, hq⟩; have n0_ := Aside0.mk hq; clear HQ hq; have HQ := n0_; clear n0_; have hc0 := cellS50_0 HQ.out.pi.1.1; have hc1 := cellS50_1 HQ.out.pi.1.1; have hc2 := cellS50_2 HQ.out.pi.1.1; have hc3 := cellS50_3 HQ.out.pi.1.1; have hf1 := blk_frozen HQ.out.pi.1.1 1; have hf3 := blk_frozen HQ.out.pi.1.1 3))
          go_ret
          exact ⟨rfl, _, HQ.out⟩
      · rw [if_pos rfl] at H
        simp only [Option.some.injEq, Prod.mk.injEq] at H
        obtain ⟨rfl, rfl⟩ := H
        go_wp2
        go_ret
        exact ⟨rfl, _, HQ.out⟩
end Go.Proofs.Ytmddcohelcciaaa.PFnExactReParse.H
