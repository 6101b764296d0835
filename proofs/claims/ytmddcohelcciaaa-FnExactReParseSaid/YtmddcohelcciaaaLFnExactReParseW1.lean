/- single, joined, repeated. -/
import Derived.Test.YtmddcohelcciaaaLFnExactReParseSt
namespace Go.Proofs.Ytmddcohelcciaaa.PFnExactReParse.H
open Go.RowKit Go.Proofs.YtmddcohelcciaaaW.PrintWords Go.Proofs.YtmddcohelcciaaaW.PrintLast Go.Proofs.YtmddcohelcciaaaW.PrintMore
attribute [local go_sem] max2_int min2_int max_two min_two max_three min_three max_four min_four   -- for this text's walks alone
set_option linter.unusedVariables false
set_option linter.unusedSimpArgs false

theorem iAdd_some {σ : IS} {x : S39} {r : Int} {σ' : IS} (h : iAdd σ x = some (r, σ')) : σ.L.length < 100000 ∧ r = (σ.L.length : Int) ∧ σ' = ⟨σ.at_, σ.deep, σ.L ++ [x], σ.wr || decide ((200 : Int) < (σ.L.length : Int) + 1)⟩ := by
  unfold iAdd at h
  split at h
  · rename_i c
    simp only [Option.some.injEq, Prod.mk.injEq] at h
    exact ⟨c, h.1.symm, h.2.symm⟩
  · cases h
theorem sNode_some {σ : SS} {x : S39} {r : Int} {σ' : SS} (h : sNode σ x = some (r, σ')) : σ.L.length < 100000 ∧ r = (σ.L.length : Int) ∧ σ' = ⟨σ.at_, σ.L ++ [x], σ.wr⟩ := by
  unfold sNode at h
  split at h
  · rename_i c
    simp only [Option.some.injEq, Prod.mk.injEq] at h
    exact ⟨c, h.1.symm, h.2.symm⟩
  · cases h
set_option maxHeartbeats 8000000 in
set_option maxRecDepth 100000 in
theorem single_q {P : Nat → Prop} {w0 w W : World} {g : Nat} {s : ByteArray} {v : Value} {σ σ' : IS} {r c : Int} (hP : ∀ k, w.heap.size ≤ k → P k) (hQ : QI P w0 w W g s σ.at_ σ.deep v σ.L σ.wr) (h : iSingle c σ = some (r, σ')) :
    Calls Try.prog 60 #[.pointer (some ⟨g, 0, none⟩), .int .u8 c] W fun e W' => e = .returned (.int .i64 r) ∧ ∃ v', QI P w0 w W' g s σ'.at_ σ'.deep v' σ'.L σ'.wr := by
  have hu39 := Try.underlying39
  have HQ := Aside0.mk hQ
  clear hQ
  obtain ⟨hl, rfl, rfl⟩ := iAdd_some h
  clear h
  go_enter Try.func60, Try.ntmps60
  go_wp2_with (first | ((with_reducible refine gate_dst (N := 8) rfl ?_); refine Kd.R_lit (Kd.int .u8) _ 5 ?hg (N := 8) ?hd (xs := ([c, c] : List Int)) (inner := [.int .u8 c, .int .u8 c]) (ok := fun _ => True) (okp := fun _ => True) ?hr ?hp (fun _ hk => hk) trivial (Below.refl _ _) (Nat.le_refl _) (by simp) ?_; (case hd => rfl); (case hg => rfl); (case hr => first | (go_simp; done) | (go_simp; rfl)); (case hp => exact (Reps.one (show Kd.M (Kd.int .u8) _ _ _ c [.int .u8 c] from rfl) (Reps.one (show Kd.M (Kd.int .u8) _ _ _ c [.int .u8 c] from rfl) (Reps.none _ _)))); intro v7 w3 ho4 hb hg_ hnew_; clear hg_ hnew_; have hcv5 := own_string (P := Try.prog) Try.underlying67 Try.underlying5 Try.underlying9 (Kd.own_of_R ho4); have n0_ := Aside0.mk (HQ.out.belowS hb); clear HQ ho4 hb; have HQ := n0_; clear n0_) | (go_at_call 51; (with_reducible refine (add_q (x := ⟨0, false, strOfNums [c, c], []⟩) HQ.out hP hl rfl).mono ?_); rintro e w9 ⟨rfl, v9, hq⟩; have n0_ := Aside0.mk hq; clear HQ hq; have HQ := n0_; clear n0_))
  go_ret
  exact ⟨rfl, _, HQ.out⟩
set_option maxHeartbeats 8000000 in
set_option maxRecDepth 100000 in
theorem joined_q {P : Nat → Prop} {w0 w W : World} {g : Nat} {s : ByteArray} {v kv : Value} {σ σ' : IS} {ks : List Int} {r kind : Int} (hP : ∀ k, w.heap.size ≤ k → P k) (hQ : QKI P w0 w W g s σ.at_ σ.deep v σ.L σ.wr kv ks) (h : iJoined kind ks σ = some (r, σ')) :
    Calls Try.prog 45 #[.pointer (some ⟨g, 0, none⟩), .int .i64 kind, kv] W fun e W' => e = .returned (.int .i64 r) ∧ ∃ v', QI P w0 w W' g s σ'.at_ σ'.deep v' σ'.L σ'.wr := by
  have hu39 := Try.underlying39
  obtain ⟨A, cap, rfl⟩ := Kd.R_slice hQ.kids
  have HQ := Aside0.mk hQ
  clear hQ
  unfold iJoined at h
  by_cases c1 : (ks.length : Int) = 1
  · rw [if_pos c1] at h
    simp only [Option.some.injEq, Prod.mk.injEq] at h
    obtain ⟨rfl, rfl⟩ := h
    have c1b0 : ((ks.length : Int) == 1) = true := beq_iff_eq.mpr c1
    obtain ⟨hn, hcap, hC⟩ := Kd.R_reads' HQ.out.kids
    obtain ⟨ad, rfl, hc⟩ := Kd.at_int hC 0 (by omega) (by omega)
    have hc0 : W.cell? ad = some (.int .i64 (rd ks 0)) := by
      have h0 : ad.add (Int.toNat 0) = ad := by simp [Addr.add]
      rw [h0] at hc
      exact hc
    clear hc
    go_enter Try.func45, Try.ntmps45
    go_wp2
    go_ret
    exact ⟨rfl, _, HQ.out.drop⟩
  · rw [if_neg c1] at h
    obtain ⟨hl, rfl, rfl⟩ := iAdd_some h
    clear h
    have c1b0 : ((ks.length : Int) == 1) = false := beq_eq_false_iff_ne.mpr c1
    go_enter Try.func45, Try.ntmps45
    go_wp2_with (first | (go_at_call 51; (with_reducible refine (addk_q (x := ⟨kind, false, ⟨#[]⟩, ks⟩) HQ.out hP hl rfl).mono ?_); rintro e w9 ⟨rfl, v9, hq⟩; have n0_ := Aside0.mk hq; clear HQ hq; have HQ := n0_; clear n0_))
    go_ret
    exact ⟨rfl, _, HQ.out⟩
set_option maxHeartbeats 8000000 in
set_option maxRecDepth 100000 in
theorem rep_q {s : ByteArray} {A : IS → Option (Int × IS)} (hA : DoesI 54 s A) (n : Nat) : DoesI 49 s (iRep s A n) := by
  intro P w0 w W g v σ r σ' hP hQ h
  have hu39 := Try.underlying39
  have HQ := Aside0.mk hQ
  clear hQ
  unfold iRep at h
  obtain ⟨⟨k0, σ1⟩, h1, h⟩ := Option.bind_eq_some_iff.mp h
  have H' := Aside0.mk h
  clear h
  dsimp only at H'
  go_enter Try.func49, Try.ntmps49
  go_wp2_with (first | (go_at_call 54; (with_reducible refine (hA P w0 w _ g _ σ k0 σ1 hP HQ.out h1).mono ?_); rintro e w9 ⟨rfl, v9, hq⟩; have n0_ := Aside0.mk hq; clear HQ hq; have HQ := n0_; clear n0_))
  go_loopg [3] n (fun kq v3 w' => ∃ (out : Int) (σ2 : IS) (v2 : Value), v3 = .int .i64 out ∧ Aside0 (iRepL s kq out σ2 = some (r, σ')) ∧ Aside0 (kq ≤ n) ∧ Aside0 (QI P w0 w w' g s σ2.at_ σ2.deep v2 σ2.L σ2.wr))
  case atStart => exact ⟨k0, σ1, _, rfl, H', ⟨Nat.le_refl _⟩, HQ⟩
  case round =>
    clear H' HQ
    obtain ⟨out, σ2, v2, rfl, HA, HK1, HQ⟩ := hrel
    cases gk with
    | zero => exact absurd HA.out (by simp [iRepL])
    | succ k1 =>
      have H := HA.out
      clear HA
      obtain ⟨a2, d2, L2, wr2⟩ := σ2
      simp only [iRepL] at H
      dsimp only at HQ
      cases wr2
      · rw [if_neg (by decide)] at H
        obtain ⟨b, hb1, H⟩ := Option.bind_eq_some_iff.mp H
        have HB1 := Aside0.mk hb1
        clear hb1
        cases b
        · rw [if_neg (by decide)] at H
          simp only [Option.some.injEq, Prod.mk.injEq] at H
          obtain ⟨rfl, rfl⟩ := H
          have hc4 := cellS55_4 HQ.out.pi.1.1
          go_wp2_with (first | (go_at_call 44; (with_reducible refine (sees_q HQ.out HB1.out).mono ?_); rintro e w9 ⟨rfl, hq⟩; have n0_ := Aside0.mk hq; clear HQ hq; have HQ := n0_; clear n0_))
          go_ret
          exact ⟨rfl, _, HQ.out⟩
        · rw [if_pos rfl] at H
          obtain ⟨⟨c, a3, wr3⟩, hn, H⟩ := Option.bind_eq_some_iff.mp H
          obtain ⟨⟨k4, σ4⟩, hadd, H⟩ := Option.bind_eq_some_iff.mp H
          obtain ⟨ix, hix⟩ : ∃ ix, Lib.indexByte [42, 43, 63] c.toNat.toUInt8 = ix := ⟨_, rfl⟩
          rw [hix] at hadd
          have HX := Aside0.mk (show strings_IndexByte.f ⟨#[42, 43, 63]⟩ c = some ix from congrArg some hix)
          clear hix
          obtain ⟨hl, rfl, rfl⟩ := iAdd_some hadd
          have HN := Aside0.mk hn
          have H' := Aside0.mk H
          clear hn hadd H
          dsimp only at HN H' hl
          have hc4 := cellS55_4 HQ.out.pi.1.1
          go_wp2_with (first
            | (go_at_call 44; (with_reducible refine (sees_q HQ.out HB1.out).mono ?_); rintro e w9 ⟨rfl, hq⟩; have n0_ := Aside0.mk hq; clear HQ hq; have HQ := n0_; clear n0_)
            | (go_at_call 55; (with_reducible refine (next_q HQ.out HN.out).mono ?_); rintro e w9 ⟨rfl, hq⟩; have n0_ := Aside0.mk hq; clear HQ hq; have HQ := n0_; clear n0_)
            | (go_at_call 50; (with_reducible refine (strings_IndexByte.calls ⟨#[42, 43, 63]⟩ c ix _ HX.out).mono ?_); rintro e w9 ⟨rfl, ⟨nd, rfl⟩⟩)
            | ((with_reducible refine gate_dst (N := 21) rfl ?_); refine Kd.R_lit (Kd.int .i64) _ 3 ?hg (N := 21) ?hd (xs := ([out] : List Int)) (inner := [.int .i64 out]) (ok := fun _ => True) (okp := fun _ => True) ?hr ?hp (fun _ hk => hk) trivial (Below.refl _ _) (Nat.le_refl _) (by simp) ?_; (case hd => rfl); (case hg => rfl); (case hr => first | (go_simp; done) | (go_simp; rfl)); (case hp => exact (Reps.one (show Kd.M (Kd.int .i64) _ _ _ out [.int .i64 out] from rfl) (Reps.none _ _))); intro kv w3 ho4 hb hg_ hnew_; obtain ⟨A3, cap3, rfl⟩ := Kd.R_slice ho4; have n0_ := Aside0.mk (show QKI P w0 w w3 g s _ _ _ _ _ (.slice A3 1 cap3) [out] from QI.kids (by repeat (first | (with_reducible first | exact HQ.out | apply QI.alloc | apply QI.drewN | apply QI.drew) | exact HQ.out)) hP ho4 hb hnew_); clear HQ ho4 hb hg_ hnew_; have HQ := n0_; clear n0_)
            | (go_at_call 51; (with_reducible refine (addk_q (x := ⟨wrap64 (5 + ix), false, ⟨#[]⟩, [out]⟩) HQ.out hP hl rfl).mono ?_); rintro e w9 ⟨rfl, v9, hq⟩; have n0_ := Aside0.mk hq; clear HQ hq; have HQ := n0_; clear n0_))
          go_roundg k1
          case measure => have := HK1.out; omega
          case rel => exact ⟨_, _, _, rfl, H', ⟨by have := HK1.out; omega⟩, HQ⟩
      · rw [if_pos rfl] at H
        simp only [Option.some.injEq, Prod.mk.injEq] at H
        obtain ⟨rfl, rfl⟩ := H
        have hc4 := cellS55_4 HQ.out.pi.1.1
        go_wp2
        go_ret
        exact ⟨rfl, _, HQ.out⟩
end Go.Proofs.Ytmddcohelcciaaa.PFnExactReParse.H
