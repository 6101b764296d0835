/- markReNodeS: each node is marked, and each node's kids. -/
import Derived.Test.YtmddcohelcciaaaLFnExactReParseSt
import Derived.Test.YtmddcohelcciaaaPFnExactReParsex3
namespace Go.Proofs.Ytmddcohelcciaaa.PFnExactReParse.H
open Go.RowKit Go.Proofs.YtmddcohelcciaaaW.PrintWords Go.Proofs.YtmddcohelcciaaaW.PrintLast Go.Proofs.YtmddcohelcciaaaW.PrintMore
attribute [local go_sem] max2_int min2_int max_two min_two max_three min_three max_four min_four   -- for this text's walks alone
set_option linter.unusedVariables false
set_option linter.unusedSimpArgs false

def mkL : Nat → List S39 → Int → Int → Option (Int × List S39)
  | 0, _, _, _ => none
  | n + 1, L, m, i => if i < (L.length : Int) then (if 0 ≤ i then
      (laws_markText.f n (wrap64 (wrap64 (m + 1) + 1))).bind fun t => (laws_markIntS.f n (rd_T39 L i).f3 (wrap64 (wrap64 (wrap64 (m + 1) + 1) + 1))).bind fun q =>
        mkL n (L.set i.toNat ⟨m, (Int.tmod (wrap64 (m + 1)) 3 == 0), t, q.2⟩) q.1 (wrap64 (i + 1))
    else none) else some (m, L)
theorem setCells_one (w : World) (g o : Nat) (u : Value) : w.setCells g o [u] = w.setCell ⟨g, o, none⟩ u := rfl
set_option maxHeartbeats 8000000 in
set_option maxRecDepth 100000 in
theorem mark_q (k : Nat) (ok : Nat → Prop) (v : Value) (L : List S39) (a1 r1 : Int) (L' : List S39) (w0 w : World) (hB : Below w0.heap.size w0 w) (hS : Kd.S k39 39 w w0.heap.size ok v L) (h : mkL k L a1 0 = some (r1, L')) :
    Calls Try.prog 15 #[v, .int .i64 a1] w fun e w' => e = .returned (.int .i64 r1) ∧ Kd.S k39 39 w' w0.heap.size ok v L' ∧ Below w0.heap.size w0 w' ∧ Kept w w' ok := by
  have hu39 := Try.underlying39
  have hu25 := Try.underlying25
  obtain ⟨A, cap, rfl⟩ := Kd.S_slice hS
  have HS := Aside0.mk hS
  have HB := Aside0.mk hB
  have HK := Aside0.mk (Kept.refl w ok)
  have H' := Aside0.mk h
  clear hS hB h
  go_enter Try.func15, Try.ntmps15
  go_wp2
  go_loopg [1, 5] k (fun kq v1 v5 w' => ∃ (L2 : List S39) (x1 x5 : Int), v1 = .int .i64 x1 ∧ v5 = .int .i64 x5 ∧ Aside0 (mkL kq L2 x1 x5 = some (r1, L')) ∧ Aside0 (kq ≤ k) ∧ L2.length = L.length ∧ Aside0 (Kd.S k39 39 w' w0.heap.size ok (.slice A L.length cap) L2) ∧ Aside0 (Kept w w' ok) ∧ Aside0 (Below w0.heap.size w0 w'))
  case atStart => exact ⟨L, a1, 0, rfl, rfl, H', ⟨Nat.le_refl _⟩, rfl, HS, HK, HB⟩
  case round =>
    clear H' HS HK HB
    obtain ⟨L2, x1, x5, rfl, rfl, HA, HK1, hlen, HS, HK, HB⟩ := hrel
    cases gk with
    | zero => exact absurd HA.out (by simp [mkL])
    | succ k1 =>
      have H := HA.out
      clear HA
      simp only [mkL] at H
      rw [hlen] at H
      have hlen2 := Aside0.mk hlen
      by_cases c3 : x5 < (L.length : Int)
      · rw [if_pos c3] at H
        have c3b0 : decide (x5 < (L.length : Int)) = true := decide_eq_true c3
        by_cases c4 : 0 ≤ x5
        · rw [if_pos c4] at H
          obtain ⟨t, ht, H⟩ := Option.bind_eq_some_iff.mp H
          obtain ⟨⟨m4, kids4⟩, hm, H⟩ := Option.bind_eq_some_iff.mp H
          have HT := Aside0.mk ht
          have HM := Aside0.mk hm
          have H' := Aside0.mk H
          clear ht hm H
          dsimp only at HM H'
          obtain ⟨g, cap2, hv, hg0, hg1, _⟩ := Kd.S_form HS.out (by omega)
          injection hv with hA hn_ hcp_
          subst hA
          clear hn_ hcp_
          obtain ⟨oki, c, hcl, hM, hcc, hfr, hoki, hH⟩ := Kd.S_elem HS.out z39 x5 c4 (by omega)
          obtain ⟨v3, rfl, hR3⟩ := k39_openM hM
          have HH := Aside0.mk hH
          have HR := Aside0.mk (show (Kd.int .i64).R 3 wr w0.heap.size oki v3 (rd_T39 L2 x5).f3 from hR3)
          have hgok := (Kd.S_R HS.out).1 g (by simp [Value.ownBlock])
          have hf0 : wr.frozen? ⟨g, x5.toNat * 4, none⟩ = false := hfr 0
          have hf1 : wr.frozen? ⟨g, x5.toNat * 4 + 1, none⟩ = false := hfr 1
          have hf2 : wr.frozen? ⟨g, x5.toNat * 4 + 2, none⟩ = false := hfr 2
          have hc0 : wr.cell? ⟨g, x5.toNat * 4, none⟩ = some (.int .i64 (L2.getD x5.toNat z39).f0) := hcc 0 _ rfl
          have hc1 : wr.cell? ⟨g, x5.toNat * 4 + 1, none⟩ = some (.bool (L2.getD x5.toNat z39).f1) := hcc 1 _ rfl
          have hc2 : wr.cell? ⟨g, x5.toNat * 4 + 2, none⟩ = some (.string (L2.getD x5.toNat z39).f2) := hcc 2 _ rfl
          have hc3 : wr.cell? ⟨g, x5.toNat * 4 + 3, none⟩ = some v3 := hcc 3 _ rfl
          have hoki2 := Aside0.mk hoki
          have hc34 := Aside0.mk c3
          have hc4 := Aside0.mk c4
          have hg2 := Aside0.mk hgok
          have hge := Aside0.mk hg0
          clear hM hcc hfr hoki hg0 hg1 hcl hH hR3 hlen hgok HS
          have p5 := eq_true c4
          have q5 := eq_true c3
          clear c3 c4
          go_upto_region 5 with (fail)
          have hst := Kd.H_seg HH.out hc4.out hc34.out (seg := [.int .i64 x1]) (j := 0) (by show 0 + 1 ≤ 4; omega) (by intro q hq; rw [List.mem_singleton] at hq; subst hq; rfl)
          have n0_ : Aside0 (Kd.H k39 39 (wr.setCell ⟨g, x5.toNat * 4, none⟩ (.int .i64 x1)) w0.heap.size ok (.slice (some ⟨g, 0, none⟩) L.length cap) L2 x5 oki [.int .i64 x1, .bool (L2.getD x5.toNat z39).f1, .string (L2.getD x5.toNat z39).f2, v3]) := ⟨hst.1⟩
          have hgw : wr.grownBy (wr.setCell ⟨g, x5.toNat * 4, none⟩ (.int .i64 x1)) (some g) := hst.2
          have n1_ := Aside0.mk (Kd.R_grown HR.out hgw (fun k hk e => (hoki2.out k hk).2 (by injection e)))
          have n2_ := Aside0.mk (below_set (j := x5.toNat * 4) (v := .int .i64 x1) HB.out hge.out)
          have n3_ := Aside0.mk (HK.out.setCell (p := ⟨g, x5.toNat * 4, none⟩) (.inl hg2.out) (.int .i64 x1))
          clear hst hgw HH HR HB HK hc0 hc1 hc2 hc3 hf0 hf1 hf2
          generalize World.setCell wr ⟨g, x5.toNat * 4, none⟩ (.int .i64 x1) = w11 at n0_ n1_ n2_ n3_ ⊢
          have HH := n0_
          have HR := n1_
          have HB := n2_
          have HK := n3_
          clear n0_ n1_ n2_ n3_
          obtain ⟨hcc, hfr⟩ := Kd.H_at HH.out hc4.out hc34.out
          have hc0 : w11.cell? ⟨g, x5.toNat * 4, none⟩ = some (.int .i64 x1) := hcc 0 _ rfl
          have hf0 : w11.frozen? ⟨g, x5.toNat * 4, none⟩ = false := hfr 0
          have hc1 : w11.cell? ⟨g, x5.toNat * 4 + 1, none⟩ = some (.bool (L2.getD x5.toNat z39).f1) := hcc 1 _ rfl
          have hf1 : w11.frozen? ⟨g, x5.toNat * 4 + 1, none⟩ = false := hfr 1
          have hc2 : w11.cell? ⟨g, x5.toNat * 4 + 2, none⟩ = some (.string (L2.getD x5.toNat z39).f2) := hcc 2 _ rfl
          have hf2 : w11.frozen? ⟨g, x5.toNat * 4 + 2, none⟩ = false := hfr 2
          have hc3 : w11.cell? ⟨g, x5.toNat * 4 + 3, none⟩ = some (v3) := hcc 3 _ rfl
          clear hcc hfr
          go_upto_region 7 with (fail)
          have hst := Kd.H_seg HH.out hc4.out hc34.out (seg := [.bool (Int.tmod (wrap64 (x1 + 1)) 3 == 0)]) (j := 1) (by show 1 + 1 ≤ 4; omega) (by intro q hq; rw [List.mem_singleton] at hq; subst hq; rfl)
          have n0_ : Aside0 (Kd.H k39 39 (w11.setCell ⟨g, x5.toNat * 4 + 1, none⟩ (.bool (Int.tmod (wrap64 (x1 + 1)) 3 == 0))) w0.heap.size ok (.slice (some ⟨g, 0, none⟩) L.length cap) L2 x5 oki [.int .i64 x1, .bool (Int.tmod (wrap64 (x1 + 1)) 3 == 0), .string (L2.getD x5.toNat z39).f2, v3]) := ⟨hst.1⟩
          have hgw : w11.grownBy (w11.setCell ⟨g, x5.toNat * 4 + 1, none⟩ (.bool (Int.tmod (wrap64 (x1 + 1)) 3 == 0))) (some g) := hst.2
          have n1_ := Aside0.mk (Kd.R_grown HR.out hgw (fun k hk e => (hoki2.out k hk).2 (by injection e)))
          have n2_ := Aside0.mk (below_set (j := x5.toNat * 4 + 1) (v := .bool (Int.tmod (wrap64 (x1 + 1)) 3 == 0)) HB.out hge.out)
          have n3_ := Aside0.mk (HK.out.setCell (p := ⟨g, x5.toNat * 4 + 1, none⟩) (.inl hg2.out) (.bool (Int.tmod (wrap64 (x1 + 1)) 3 == 0)))
          clear hst hgw HH HR HB HK hc0 hc1 hc2 hc3 hf0 hf1 hf2
          generalize World.setCell w11 ⟨g, x5.toNat * 4 + 1, none⟩ (.bool (Int.tmod (wrap64 (x1 + 1)) 3 == 0)) = w12 at n0_ n1_ n2_ n3_ ⊢
          have HH := n0_
          have HR := n1_
          have HB := n2_
          have HK := n3_
          clear n0_ n1_ n2_ n3_
          obtain ⟨hcc, hfr⟩ := Kd.H_at HH.out hc4.out hc34.out
          have hc0 : w12.cell? ⟨g, x5.toNat * 4, none⟩ = some (.int .i64 x1) := hcc 0 _ rfl
          have hf0 : w12.frozen? ⟨g, x5.toNat * 4, none⟩ = false := hfr 0
          have hc1 : w12.cell? ⟨g, x5.toNat * 4 + 1, none⟩ = some (.bool (Int.tmod (wrap64 (x1 + 1)) 3 == 0)) := hcc 1 _ rfl
          have hf1 : w12.frozen? ⟨g, x5.toNat * 4 + 1, none⟩ = false := hfr 1
          have hc2 : w12.cell? ⟨g, x5.toNat * 4 + 2, none⟩ = some (.string (L2.getD x5.toNat z39).f2) := hcc 2 _ rfl
          have hf2 : w12.frozen? ⟨g, x5.toNat * 4 + 2, none⟩ = false := hfr 2
          have hc3 : w12.cell? ⟨g, x5.toNat * 4 + 3, none⟩ = some (v3) := hcc 3 _ rfl
          clear hcc hfr
          go_upto_region 9 with (first
            | (go_at_call 29; (with_reducible refine (laws_markText.calls k1 (wrap64 (wrap64 (x1 + 1) + 1)) t _ HT.out).mono ?_); rintro e w13 ⟨rfl, hb⟩; have n0_ := Aside0.mk (Kd.H_below HH.out hb); have n1_ := Aside0.mk (Kd.R_below HR.out hb); have n2_ := Aside0.mk (below_step HB.out hb); have n3_ := Aside0.mk (HK.out.below hb); clear HH HR HB HK hc0 hc1 hc2 hc3 hf0 hf1 hf2 hb; have HH := n0_; have HR := n1_; have HB := n2_; have HK := n3_; clear n0_ n1_ n2_ n3_; obtain ⟨hcc, hfr⟩ := Kd.H_at HH.out hc4.out hc34.out; have hc2 : w13.cell? ⟨g, x5.toNat * 4 + 2, none⟩ = some (.string (L2.getD x5.toNat z39).f2) := hcc 2 _ rfl; have hf2 : w13.frozen? ⟨g, x5.toNat * 4 + 2, none⟩ = false := hfr 2; clear hcc hfr))
          have hst := Kd.H_seg HH.out hc4.out hc34.out (seg := [.string t]) (j := 2) (by show 2 + 1 ≤ 4; omega) (by intro q hq; rw [List.mem_singleton] at hq; subst hq; rfl)
          have n0_ : Aside0 (Kd.H k39 39 (w13.setCell ⟨g, x5.toNat * 4 + 2, none⟩ (.string t)) w0.heap.size ok (.slice (some ⟨g, 0, none⟩) L.length cap) L2 x5 oki [.int .i64 x1, .bool (Int.tmod (wrap64 (x1 + 1)) 3 == 0), .string t, v3]) := ⟨hst.1⟩
          have hgw : w13.grownBy (w13.setCell ⟨g, x5.toNat * 4 + 2, none⟩ (.string t)) (some g) := hst.2
          have n1_ := Aside0.mk (Kd.R_grown HR.out hgw (fun k hk e => (hoki2.out k hk).2 (by injection e)))
          have n2_ := Aside0.mk (below_set (j := x5.toNat * 4 + 2) (v := .string t) HB.out hge.out)
          have n3_ := Aside0.mk (HK.out.setCell (p := ⟨g, x5.toNat * 4 + 2, none⟩) (.inl hg2.out) (.string t))
          clear hst hgw HH HR HB HK hc2 hf2
          generalize World.setCell w13 ⟨g, x5.toNat * 4 + 2, none⟩ (.string t) = w14 at n0_ n1_ n2_ n3_ ⊢
          have HH := n0_
          have HR := n1_
          have HB := n2_
          have HK := n3_
          clear n0_ n1_ n2_ n3_
          obtain ⟨hcc, hfr⟩ := Kd.H_at HH.out hc4.out hc34.out
          have hc0 : w14.cell? ⟨g, x5.toNat * 4, none⟩ = some (.int .i64 x1) := hcc 0 _ rfl
          have hf0 : w14.frozen? ⟨g, x5.toNat * 4, none⟩ = false := hfr 0
          have hc1 : w14.cell? ⟨g, x5.toNat * 4 + 1, none⟩ = some (.bool (Int.tmod (wrap64 (x1 + 1)) 3 == 0)) := hcc 1 _ rfl
          have hf1 : w14.frozen? ⟨g, x5.toNat * 4 + 1, none⟩ = false := hfr 1
          have hc2 : w14.cell? ⟨g, x5.toNat * 4 + 2, none⟩ = some (.string t) := hcc 2 _ rfl
          have hf2 : w14.frozen? ⟨g, x5.toNat * 4 + 2, none⟩ = false := hfr 2
          have hc3 : w14.cell? ⟨g, x5.toNat * 4 + 3, none⟩ = some (v3) := hcc 3 _ rfl
          clear hcc hfr
          go_wp2_with (first
            | (go_at_call 30; (with_reducible refine (laws_markIntS.calls k1 oki v3 (rd_T39 L2 x5).f3 (wrap64 (wrap64 (wrap64 (x1 + 1) + 1) + 1)) m4 kids4 w0 _ HB.out HR.out HM.out).mono ?_); rintro e w15 ⟨rfl, hr, hb, hk⟩; have n0_ := Aside0.mk (Kd.H_back (okp := oki) (x' := (⟨x1, (Int.tmod (wrap64 (x1 + 1)) 3 == 0), t, kids4⟩ : S39)) (Kd.H_kept HH.out hk (fun k ho hn hS => hn hS)) (k39_mkM _ _ _ (⟨x1, (Int.tmod (wrap64 (x1 + 1)) 3 == 0), t, kids4⟩ : S39) (Kd.R_reok rfl hr (fun k hk => HR.out.1 k hk))) (fun k hk => hk)); have n2_ := Aside0.mk hb; have n3_ := Aside0.mk (HK.out.then_ hk (fun k hk => .inl (hoki2.out k hk).1)); clear HH HR HB HK hc0 hc1 hc2 hc3 hf0 hf1 hf2 hr hb hk; have HS := n0_; have HB := n2_; have HK := n3_; clear n0_ n2_ n3_))
          go_roundg k1
          case measure => have := HK1.out; omega
          case rel => exact ⟨_, m4, wrap64 (x5 + 1), rfl, rfl, H', ⟨by have := HK1.out; omega⟩, by rw [List.length_set]; exact hlen2.out, HS, HK, HB⟩
        · rw [if_neg c4] at H
          cases H
      · rw [if_neg c3] at H
        have c3b0 : decide (x5 < (L.length : Int)) = false := decide_eq_false c3
        simp only [Option.some.injEq, Prod.mk.injEq] at H
        obtain ⟨rfl, rfl⟩ := H
        clear hlen
        go_wp2
        go_ret
        exact ⟨rfl, HS.out, HB.out, HK.out⟩
end Go.Proofs.Ytmddcohelcciaaa.PFnExactReParse.H
