/- the law's own walk. -/
import Derived.Test.YtmddcohelcciaaaLFnExactReParseW6
import Derived.Test.YtmddcohelcciaaaLFnExactReParseV5
import Derived.Test.YtmddcohelcciaaaLFnExactReParseM
namespace Go.Proofs.Ytmddcohelcciaaa.PFnExactReParse.H
open Go.RowKit Go.Proofs.YtmddcohelcciaaaW.PrintWords Go.Proofs.YtmddcohelcciaaaW.PrintLast Go.Proofs.YtmddcohelcciaaaW.PrintMore
attribute [local go_sem] max2_int min2_int max_two min_two max_three min_three max_four min_four   -- for this text's walks alone
set_option linter.unusedVariables false
set_option linter.unusedSimpArgs false

/-- What is to be shown of the two functions: both tell the same row, which is like itself, and marks are held. -/
def PureReParse : Prop := ∀ s : ByteArray, s.size ≤ 1048576 → ∃ (k : Nat) (R R' : List S39) (b : Bool) (m : Int),
  sReParse k s = some (R, b) ∧ iReParse k s = some (R, b) ∧ laws_eqReNodeS.f k R R = some true ∧ mkL k R 1 0 = some (m, R') ∧ laws_heldReNodeS.f k R' 1 = some m ∧ 0 ≤ m
theorem reads_S {W : World} {base : Nat} {ok : Nat → Prop} {A : Option Addr} {n c : Nat} {L : List S39} (h : Kd.S k39 39 W base ok (.slice A n c) L) : n = L.length ∧ L.length ≤ c ∧ Kd.C k39 W A L.length L := by
  obtain ⟨h1, h2, h3⟩ := Kd.S_reads' h
  subst h1
  exact ⟨rfl, h2, h3⟩
set_option maxHeartbeats 8000000 in
set_option maxRecDepth 100000 in
theorem law_walk (P : PureReParse) (s : ByteArray) (w : World) : Calls Try.prog 5 #[.string s] w fun e w' => e = .returned (.bool true) ∧ Below w.heap.size w w' := by
  have HB := Aside0.mk (Below.refl w.heap.size w)
  by_cases c1 : (s.size : Int) > 1048576
  · have c1b : decide (1048576 < (s.size : Int)) = true := decide_eq_true c1
    have c1c : decide (1048576 < s.size) = true := decide_eq_true (by omega)
    clear c1
    go_enter Try.func5, Try.ntmps5
    go_wp2
    go_ret
    exact ⟨rfl, HB.out⟩
  · obtain ⟨k, R, R', b, m, h1, h2, h3, h4, h5, h6⟩ := P s (by omega)
    have c1b : decide (1048576 < (s.size : Int)) = false := decide_eq_false c1
    have c1c : decide (1048576 < s.size) = false := decide_eq_false (by omega)
    have A1 := Aside0.mk h1
    have A2 := Aside0.mk h2
    have A3 := Aside0.mk h3
    have A4 := Aside0.mk h4
    have A5 := Aside0.mk h5
    have m0 : decide (m < 0) = false := decide_eq_false (by omega)
    clear c1 h1 h2 h3 h4 h5 h6
    have hbb : (b != b) = false := by simp
    have hmm : (m != m) = false := by simp
    go_enter Try.func5, Try.ntmps5
    go_upto_region 4 with (first
      | (go_at_call 13; (with_reducible refine (sReParse_q k s R b _ A1.out).mono ?_); rintro e w1 ⟨v0, rfl, hs, hb⟩; obtain ⟨B0, e0, rfl⟩ := Kd.S_slice hs; have H0 := Aside0.mk (Kd.S_mono (Kd.S_bound hs) (fun k hk => (hk.2.2.1 : k < w1.heap.size))); have HW := Aside0.mk (below_step HB.out hb); have HB1 := Aside0.mk (Below.refl w1.heap.size w1); clear HB hs hb))
    go_upto_region 5 with (first
      | (go_at_call 14; (with_reducible refine (ReParse_q k s R b _ A2.out).mono ?_); rintro e w2 ⟨v1, rfl, hs, hb⟩; obtain ⟨B1, e1, rfl⟩ := Kd.S_slice hs; have H1 := Aside0.mk (Kd.S_mono (Kd.S_bound hs) (fun k hk => (hk.2.1 : w1.heap.size ≤ k))); clear hs; have n0_ := Aside0.mk (Kd.S_below H0.out hb); have n1_ := Aside0.mk (below_step HB1.out hb); clear HB1 hb H0; have H0 := n0_; have HB1 := n1_; clear n0_ n1_))
    have K0 := Aside0.mk (reads_S H0.out)
    have K1 := Aside0.mk (reads_S H1.out)
    go_upto_region 8 with (first
      | (go_at_call 10; (with_reducible refine (laws_eqReNodeS.calls k B1 e1 R B0 e0 R true _ K1.out.2.2 K1.out.2.1 K0.out.2.2 K0.out.2.1 A3.out).mono ?_); rintro e w3 ⟨rfl, hb⟩; have n0_ := Aside0.mk (Kd.S_below H0.out hb); have n1_ := Aside0.mk (Kd.S_below H1.out hb); have n2_ := Aside0.mk (below_step HB1.out hb); clear HB1 hb H0 H1; have H0 := n0_; have H1 := n1_; have HB1 := n2_; clear n0_ n1_ n2_))
    clear K0 K1
    go_upto_region 10 with (first
      | (go_at_call 15; (with_reducible refine (mark_q k (fun k => w1.heap.size ≤ k) (.slice B1 R.length e1) R 1 m R' w1 _ HB1.out H1.out A4.out).mono ?_); rintro e w4 ⟨rfl, hs, hb, hk⟩; have n0_ := Aside0.mk (Kd.S_kept H0.out hk (fun k h1 h2 => Nat.lt_irrefl _ (Nat.lt_of_lt_of_le h1 h2))); have n1_ := Aside0.mk hs; have n2_ := Aside0.mk hb; clear H0 H1 HB1 hs hb hk; have H0 := n0_; have H1 := n1_; have HB1 := n2_; clear n0_ n1_ n2_))
    have K1 := Aside0.mk (reads_S H1.out)
    go_upto_region 15 with (first
      | (go_at_call 16; (with_reducible refine (calls_of_args (show #[Value.slice B1 R.length e1, Value.int .i64 1] = #[Value.slice B1 R'.length e1, Value.int .i64 1] by rw [K1.out.1]) (laws_heldReNodeS.calls k B1 e1 R' 1 m _ K1.out.2.2 K1.out.2.1 A5.out)).mono ?_); rintro e w5 ⟨rfl, hb⟩; have n0_ := Aside0.mk (Kd.S_below H0.out hb); have n1_ := Aside0.mk (Kd.S_below H1.out hb); have n2_ := Aside0.mk (below_step HB1.out hb); clear HB1 hb H0 H1; have H0 := n0_; have H1 := n1_; have HB1 := n2_; clear n0_ n1_ n2_))
    clear K1
    go_upto_region 16 with (first
      | (go_at_call 14; (with_reducible refine (ReParse_q k s R b _ A2.out).mono ?_); rintro e w6 ⟨v2, rfl, hs, hb⟩; obtain ⟨B2, e2, rfl⟩ := Kd.S_slice hs; have H2 := Aside0.mk hs; clear hs; have n0_ := Aside0.mk (Kd.S_below H0.out hb); have n1_ := Aside0.mk (Kd.S_below H1.out hb); have n2_ := Aside0.mk (below_step HB1.out hb); clear HB1 hb H0 H1; have H0 := n0_; have H1 := n1_; have HB1 := n2_; clear n0_ n1_ n2_))
    have K0 := Aside0.mk (reads_S H0.out)
    have K2 := Aside0.mk (reads_S H2.out)
    go_upto_region 19 with (first
      | (go_at_call 10; (with_reducible refine (laws_eqReNodeS.calls k B2 e2 R B0 e0 R true _ K2.out.2.2 K2.out.2.1 K0.out.2.2 K0.out.2.1 A3.out).mono ?_); rintro e w3 ⟨rfl, hb⟩; have n0_ := Aside0.mk (Kd.S_below H0.out hb); have n1_ := Aside0.mk (Kd.S_below H1.out hb); have n2_ := Aside0.mk (below_step HB1.out hb); clear HB1 hb H0 H1; have H0 := n0_; have H1 := n1_; have HB1 := n2_; clear n0_ n1_ n2_))
    clear K0 K2
    have K1 := Aside0.mk (reads_S H1.out)
    go_wp2_with (first
      | (go_at_call 16; (with_reducible refine (calls_of_args (show #[Value.slice B1 R.length e1, Value.int .i64 1] = #[Value.slice B1 R'.length e1, Value.int .i64 1] by rw [K1.out.1]) (laws_heldReNodeS.calls k B1 e1 R' 1 m _ K1.out.2.2 K1.out.2.1 A5.out)).mono ?_); rintro e w7 ⟨rfl, hb⟩; have n0_ := Aside0.mk (Kd.S_below H0.out hb); have n1_ := Aside0.mk (Kd.S_below H1.out hb); have n2_ := Aside0.mk (below_step HB1.out hb); clear HB1 hb H0 H1; have H0 := n0_; have H1 := n1_; have HB1 := n2_; clear n0_ n1_ n2_))
    go_ret
    exact ⟨rfl, below_step HW.out HB1.out⟩
end Go.Proofs.Ytmddcohelcciaaa.PFnExactReParse.H
