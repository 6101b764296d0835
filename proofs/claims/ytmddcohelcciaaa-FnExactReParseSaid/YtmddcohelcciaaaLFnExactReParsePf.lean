/- The two parsers go alike: sequences, alternatives, the whole. -/
import Derived.Test.YtmddcohelcciaaaLFnExactReParsePb
import Derived.Test.YtmddcohelcciaaaLFnExactReParsePa
import Derived.Test.YtmddcohelcciaaaLFnExactReParseL
namespace Go.Proofs.Ytmddcohelcciaaa.PFnExactReParse.H
set_option linter.unusedVariables false
set_option linter.unusedSimpArgs false
open Go.RowKit Go.Proofs.YtmddcohelcciaaaW.PrintWords Go.Proofs.YtmddcohelcciaaaW.PrintLast Go.Proofs.YtmddcohelcciaaaW.PrintMore Go.Proofs.Ytmddcohelcciaaa.XL
section
variable {s : ByteArray}

theorem seqL_same (hs : s.size ≤ 200) {d b : Int} {Ri : Nat → IS → Option (Int × IS)} {Rs : Nat → SS → Option (Int × SS)} (hd0 : 0 ≤ d) (hd : d ≤ 20) (hb : 0 ≤ b)
    (hR : ∀ (a : Int) (L : List S39), b ≤ a → a ≤ s.size → (L.length : Int) ≤ 3 * a → J s.size d 0 (641 - 2 * d) Ri Rs a L) :
    ∀ (m : Nat) (a : Int) (ks : List Int) (L : List S39), (s.size - a).toNat = m → b ≤ a → a ≤ s.size → 1 ≤ ks.length → (ks.length : Int) ≤ a → (L.length : Int) ≤ 3 * a →
    ∃ r σ' r' τ', Ev2 (fun k j => iPartL s (Ri k) j ks ⟨a, d, L, false⟩) (r, σ') ∧ Ev2 (fun k j => sSeqL s (Rs k) j ks ⟨a, L, false⟩) (r', τ') ∧ Out s.size d (if 2 ≤ ks.length then 1 else 0) 1 (642 - 2 * d) 0 a L r σ' r' τ' := by
  intro m
  induction m using Nat.strongRecOn with
  | _ m ih =>
    intro a ks L hm h0 h1 hk1 hka hL
    by_cases c : a < s.size ∧ ¬ (bt s a = 124 ∨ bt s a = 41)
    · obtain ⟨r1, σ1, r1', τ1, j1, j2, j3'⟩ := hR (a) L (by omega) (by omega) (by omega)
      have j3 := j3'.back (a := a) (by omega)
      have hI : ∀ k j, iPartL s (Ri k) (j + 1) ks ⟨a, d, L, false⟩ = (Ri k ⟨a, d, L, false⟩).bind fun r => iPartL s (Ri k) j (ks ++ [r.1]) r.2 := fun k j => by
        simp only [iPartL]
        rw [if_neg (by simp), if_pos c.1, seesP (by omega) c.1, Option.bind_some, if_neg (by rw [decide_eq_true_eq]; exact c.2), if_pos (by omega)]
      have hS : ∀ k j, sSeqL s (Rs k) (j + 1) ks ⟨a, L, false⟩ = (Rs k ⟨a, L, false⟩).bind fun r => sSeqL s (Rs k) j (ks ++ [r.1]) r.2 := fun k j => by
        simp only [sSeqL]
        rw [if_neg (by simp), if_pos (more_in c.1), peek_in (by omega) c.1, Option.bind_some, if_neg (by omega), if_neg (by omega), if_pos (by omega)]
      have hlen : ∀ x : Int, (ks ++ [x]).length = ks.length + 1 := fun x => by simp
      have hge := j3'.ge
      rcases j3'.rel with ⟨w1, w2, q1, q2, q3, q4⟩ | ⟨w1, w2, w3⟩
      · obtain ⟨at1, dp1, L1, wr1⟩ := σ1
        obtain ⟨at2, L2, wr2⟩ := τ1
        dsimp only at w1 w2 q1 q2 q3 q4
        subst w1; subst w2; subst q1; subst q2; subst q3; subst q4
        obtain ⟨g1, g2, g3⟩ := j3'.ok rfl
        dsimp only at g1 g2 g3 hge
        obtain ⟨r, σ', r', τ', i1, i2, i3⟩ := ih (s.size - at1).toNat (by omega) at1 (ks ++ [r1]) L1 rfl (by omega) g1 (by rw [hlen]; omega) (by rw [hlen]; omega) (by omega)
        rw [if_pos (by rw [hlen]; omega)] at i3
        exact ⟨r, σ', r', τ', Ev2.step hI (Ev2.bind (f := fun k j (r : Int × IS) => iPartL s (Ri k) j (ks ++ [r.1]) r.2) j1 i1), Ev2.step hS (Ev2.bind (f := fun k j (r : Int × SS) => sSeqL s (Rs k) j (ks ++ [r.1]) r.2) j2 i2), i3.comp (f := -1) j3'.len j3'.good (by omega) (by omega) (by split <;> omega) (by omega) (by omega) (by omega) (fun _ hl => j3'.lim rfl hl)⟩
      · obtain ⟨r2, σ2, f1, f2, f3⟩ := ijoin_wrong (kind := 3) (ks := ks ++ [r1]) w1 (by omega)
        have impl : Ev2 (fun k j => iPartL s (Ri k) j ks ⟨a, d, L, false⟩) (r2, σ2) := Ev2.step hI (Ev2.bind (f := fun k j (r : Int × IS) => iPartL s (Ri k) j (ks ++ [r.1]) r.2) j1 ⟨1, fun k j _ hj => by
          obtain ⟨j, rfl⟩ : ∃ q, j = q + 1 := ⟨j - 1, by omega⟩
          exact (ipart_exit (Ri k) j w1).trans f1⟩)
        cases hw : τ1.wr with
        | true =>
          obtain ⟨g1, g2⟩ := j3'.bad hw
          obtain ⟨r2', τ2, p1, p2, p3, p4, p5, p6⟩ := sjoin_wrong (kind := 3) (ks := ks ++ [r1']) hw (by omega) (by rw [hlen]; omega)
          refine ⟨r2, σ2, r2', τ2, impl, Ev2.step hS (Ev2.bind (f := fun k j (r : Int × SS) => sSeqL s (Rs k) j (ks ++ [r.1]) r.2) j2 ⟨1, fun k j _ hj => ?_⟩), out_joined j3 hw p2 p3 p4 p5 p6 f2 (by omega) (by omega)⟩
          obtain ⟨j, rfl⟩ : ∃ q, j = q + 1 := ⟨j - 1, by omega⟩
          exact (sseq_exit (Rs k) j hw).trans p1
        | false =>
          obtain ⟨g1, g2, g3⟩ := j3'.ok hw
          obtain ⟨at1, L1, wr1⟩ := τ1
          dsimp only at hw g1 g2 g3 w2 hge
          subst hw
          obtain ⟨r, σ', r', τ', i1, i2, i3⟩ := ih (s.size - at1).toNat (by omega) at1 (ks ++ [r1']) L1 rfl (by omega) g1 (by rw [hlen]; omega) (by rw [hlen]; omega) (by omega)
          rw [if_pos (by rw [hlen]; omega)] at i3
          have hdo : 200 < L1.length := by
            rcases w2 with w2 | w2
            · cases w2
            · exact w2
          have i4 := i3.wrong (bi2 := 642 - 2 * d) r2 σ2 f2 (.inr (by have := i3.len; omega)) (by omega)
          exact ⟨r2, σ2, r', τ', impl, Ev2.step hS (Ev2.bind (f := fun k j (r : Int × SS) => sSeqL s (Rs k) j (ks ++ [r.1]) r.2) j2 i2), i4.comp (f := -1) j3'.len j3'.good (by omega) (by omega) (by split <;> omega) (by omega) (by omega) (by omega) (fun e => by rw [f2] at e; cases e)⟩
    · obtain ⟨r, σ', r', τ', e1, e2, e3⟩ := joined_same (n := s.size) (d := d) (a := a) (e2 := 1) (bi := 642 - 2 * d) (L := L) (ks := ks) (kind := 3) h1 (by omega) hk1 (by omega) (by omega)
      refine ⟨r, σ', r', τ', ⟨1, fun k j _ hj => ?_⟩, ⟨1, fun k j _ hj => ?_⟩, e3⟩
      · obtain ⟨j, rfl⟩ : ∃ q, j = q + 1 := ⟨j - 1, by omega⟩
        simp only [iPartL]
        rw [if_neg (by simp)]
        by_cases h : a < s.size
        · rw [if_pos h, seesP (by omega) h, Option.bind_some, if_pos (by rw [decide_eq_true_eq]; omega), e1]
        · rw [if_neg h, e1]
      · obtain ⟨j, rfl⟩ : ∃ q, j = q + 1 := ⟨j - 1, by omega⟩
        simp only [sSeqL]
        rw [if_neg (by simp)]
        by_cases h : a < s.size
        · rw [if_pos (more_in h), peek_in (by omega) h, Option.bind_some]
          by_cases c2 : bt s a = 124
          · rw [if_pos c2, e2]
          · rw [if_neg c2, if_pos (by omega), e2]
        · rw [if_neg (by rw [more_out (a := a) (by omega)]; simp), e2]

theorem seq_same (hs : s.size ≤ 200) {d a : Int} {L : List S39} {Ri : Nat → IS → Option (Int × IS)} {Rs : Nat → SS → Option (Int × SS)} (hd0 : 0 ≤ d) (hd : d ≤ 20) (h0 : 0 ≤ a) (h1 : a ≤ s.size) (hL : (L.length : Int) ≤ 3 * a)
    (hR : ∀ (a' : Int) (L : List S39), a ≤ a' → a' ≤ s.size → (L.length : Int) ≤ 3 * a' → J s.size d 0 (641 - 2 * d) Ri Rs a' L) : J s.size d 1 (642 - 2 * d) (fun k => iPart s (Ri k) k) (fun k => sSeq s (Rs k) k) a L := by
  obtain ⟨r1, σ1, r1', τ1, j1, j2, j3⟩ := hR a L (Int.le_refl _) h1 hL
  have hge := j3.ge
  rcases j3.rel with ⟨w1, w2, q1, q2, q3, q4⟩ | ⟨w1, w2, w3⟩
  · obtain ⟨at1, dp1, L1, wr1⟩ := σ1
    obtain ⟨at2, L2, wr2⟩ := τ1
    dsimp only at w1 w2 q1 q2 q3 q4
    subst w1; subst w2; subst q1; subst q2; subst q3; subst q4
    obtain ⟨g1, g2, g3⟩ := j3.ok rfl
    dsimp only at g1 g2 g3 hge
    obtain ⟨r, σ', r', τ', i1, i2, i3⟩ := seqL_same hs hd0 hd h0 hR _ at1 [r1] L1 rfl (by omega) g1 (by simp) (by simp; omega) (by omega)
    rw [if_neg (by simp)] at i3
    exact ⟨r, σ', r', τ', Ev.bind (f := fun n (r : Int × IS) => iPartL s (Ri n) n [r.1] r.2) j1 i1.diag, Ev.bind (f := fun n (r : Int × SS) => sSeqL s (Rs n) n [r.1] r.2) j2 i2.diag, i3.comp (f := -1) j3.len j3.good (by omega) (by omega) (by omega) (by omega) (by omega) (by omega) (fun _ hl => j3.lim rfl hl)⟩
  · obtain ⟨r2, σ2, f1, f2, f3⟩ := ijoin_wrong (kind := 3) (ks := [r1]) w1 (by omega)
    have impl : Ev (fun k => iPart s (Ri k) k ⟨a, d, L, false⟩) (r2, σ2) := Ev.bind (f := fun n (r : Int × IS) => iPartL s (Ri n) n [r.1] r.2) j1 ⟨1, fun k hk => by
      obtain ⟨k, rfl⟩ : ∃ q, k = q + 1 := ⟨k - 1, by omega⟩
      exact (ipart_exit (Ri (k + 1)) k w1).trans f1⟩
    cases hw : τ1.wr with
    | true =>
      obtain ⟨g1, g2⟩ := j3.bad hw
      obtain ⟨r2', τ2, p1, p2, p3, p4, p5, p6⟩ := sjoin_wrong (kind := 3) (ks := [r1']) hw (by omega) (by simp)
      refine ⟨r2, σ2, r2', τ2, impl, Ev.bind (f := fun n (r : Int × SS) => sSeqL s (Rs n) n [r.1] r.2) j2 ⟨1, fun k hk => ?_⟩, out_joined j3 hw p2 p3 p4 p5 p6 f2 (by omega) (by omega)⟩
      obtain ⟨k, rfl⟩ : ∃ q, k = q + 1 := ⟨k - 1, by omega⟩
      exact (sseq_exit (Rs (k + 1)) k hw).trans p1
    | false =>
      obtain ⟨g1, g2, g3⟩ := j3.ok hw
      obtain ⟨at1, L1, wr1⟩ := τ1
      dsimp only at hw g1 g2 g3 w2 hge
      subst hw
      obtain ⟨r, σ', r', τ', i1, i2, i3⟩ := seqL_same hs hd0 hd h0 hR _ at1 [r1'] L1 rfl (by omega) g1 (by simp) (by simp; omega) (by omega)
      rw [if_neg (by simp)] at i3
      have hdo : 200 < L1.length := by
        rcases w2 with w2 | w2
        · cases w2
        · exact w2
      have i4 := i3.wrong (bi2 := 642 - 2 * d) r2 σ2 f2 (.inr (by have := i3.len; omega)) (by omega)
      exact ⟨r2, σ2, r', τ', impl, Ev.bind (f := fun n (r : Int × SS) => sSeqL s (Rs n) n [r.1] r.2) j2 i2.diag, i4.comp (f := -1) j3.len j3.good (by omega) (by omega) (by omega) (by omega) (by omega) (by omega) (fun e => by rw [f2] at e; cases e)⟩

theorem altL_same (hs : s.size ≤ 200) {d b : Int} {Ri : Nat → IS → Option (Int × IS)} {Rs : Nat → SS → Option (Int × SS)} (hd0 : 0 ≤ d) (hd : d ≤ 20) (hb : 0 ≤ b)
    (hR : ∀ (a : Int) (L : List S39), b ≤ a → a ≤ s.size → (L.length : Int) ≤ 3 * a → J s.size d 1 (642 - 2 * d) Ri Rs a L) :
    ∀ (m : Nat) (a : Int) (ks : List Int) (L : List S39), (s.size - a).toNat = m → b ≤ a → a ≤ s.size → 1 ≤ ks.length → (ks.length : Int) ≤ a → (L.length : Int) ≤ 3 * a →
    ∃ r σ' r' τ', Ev2 (fun k j => iWholeL s (Ri k) j ks ⟨a, d, L, false⟩) (r, σ') ∧ Ev2 (fun k j => sAltL s (Rs k) j ks ⟨a, L, false⟩) (r', τ') ∧ Out s.size d (if 2 ≤ ks.length then 1 else 0) 2 (643 - 2 * d) 0 a L r σ' r' τ' := by
  intro m
  induction m using Nat.strongRecOn with
  | _ m ih =>
    intro a ks L hm h0 h1 hk1 hka hL
    by_cases c : a < s.size ∧ bt s a = 124
    · obtain ⟨r1, σ1, r1', τ1, j1, j2, j3'⟩ := hR (a + 1) L (by omega) (by omega) (by omega)
      have j3 := j3'.back (a := a) (by omega)
      have hI : ∀ k j, iWholeL s (Ri k) (j + 1) ks ⟨a, d, L, false⟩ = (Ri k ⟨a + 1, d, L, false⟩).bind fun r => iWholeL s (Ri k) j (ks ++ [r.1]) r.2 := fun k j => by
        simp only [iWholeL]
        rw [if_neg (by simp), sees124 (by omega) c.1, Option.bind_some, if_pos (decide_eq_true c.2), if_pos (by omega), wrap_id (n := a + 1) (by omega) (by omega)]
      have hS : ∀ k j, sAltL s (Rs k) (j + 1) ks ⟨a, L, false⟩ = (Rs k ⟨a + 1, L, false⟩).bind fun r => sAltL s (Rs k) j (ks ++ [r.1]) r.2 := fun k j => by
        simp only [sAltL]
        rw [if_neg (by simp), if_pos (more_in c.1), peek_in (by omega) c.1, Option.bind_some, if_pos c.2, if_pos (by omega), wrap_id (n := a + 1) (by omega) (by omega)]
      have hlen : ∀ x : Int, (ks ++ [x]).length = ks.length + 1 := fun x => by simp
      have hge := j3'.ge
      rcases j3'.rel with ⟨w1, w2, q1, q2, q3, q4⟩ | ⟨w1, w2, w3⟩
      · obtain ⟨at1, dp1, L1, wr1⟩ := σ1
        obtain ⟨at2, L2, wr2⟩ := τ1
        dsimp only at w1 w2 q1 q2 q3 q4
        subst w1; subst w2; subst q1; subst q2; subst q3; subst q4
        obtain ⟨g1, g2, g3⟩ := j3'.ok rfl
        dsimp only at g1 g2 g3 hge
        obtain ⟨r, σ', r', τ', i1, i2, i3⟩ := ih (s.size - at1).toNat (by omega) at1 (ks ++ [r1]) L1 rfl (by omega) g1 (by rw [hlen]; omega) (by rw [hlen]; omega) (by omega)
        rw [if_pos (by rw [hlen]; omega)] at i3
        exact ⟨r, σ', r', τ', Ev2.step hI (Ev2.bind (f := fun k j (r : Int × IS) => iWholeL s (Ri k) j (ks ++ [r.1]) r.2) j1 i1), Ev2.step hS (Ev2.bind (f := fun k j (r : Int × SS) => sAltL s (Rs k) j (ks ++ [r.1]) r.2) j2 i2), i3.comp (f := -1) j3'.len j3'.good (by omega) (by omega) (by split <;> omega) (by omega) (by omega) (by omega) (fun _ hl => j3'.lim rfl hl)⟩
      · obtain ⟨r2, σ2, f1, f2, f3⟩ := ijoin_wrong (kind := 4) (ks := ks ++ [r1]) w1 (by omega)
        have impl : Ev2 (fun k j => iWholeL s (Ri k) j ks ⟨a, d, L, false⟩) (r2, σ2) := Ev2.step hI (Ev2.bind (f := fun k j (r : Int × IS) => iWholeL s (Ri k) j (ks ++ [r.1]) r.2) j1 ⟨1, fun k j _ hj => by
          obtain ⟨j, rfl⟩ : ∃ q, j = q + 1 := ⟨j - 1, by omega⟩
          exact (iwhole_exit (Ri k) j w1).trans f1⟩)
        cases hw : τ1.wr with
        | true =>
          obtain ⟨g1, g2⟩ := j3'.bad hw
          obtain ⟨r2', τ2, p1, p2, p3, p4, p5, p6⟩ := sjoin_wrong (kind := 4) (ks := ks ++ [r1']) hw (by omega) (by rw [hlen]; omega)
          refine ⟨r2, σ2, r2', τ2, impl, Ev2.step hS (Ev2.bind (f := fun k j (r : Int × SS) => sAltL s (Rs k) j (ks ++ [r.1]) r.2) j2 ⟨1, fun k j _ hj => ?_⟩), out_joined j3 hw p2 p3 p4 p5 p6 f2 (by omega) (by omega)⟩
          obtain ⟨j, rfl⟩ : ∃ q, j = q + 1 := ⟨j - 1, by omega⟩
          exact (salt_exit (Rs k) j hw).trans p1
        | false =>
          obtain ⟨g1, g2, g3⟩ := j3'.ok hw
          obtain ⟨at1, L1, wr1⟩ := τ1
          dsimp only at hw g1 g2 g3 w2 hge
          subst hw
          obtain ⟨r, σ', r', τ', i1, i2, i3⟩ := ih (s.size - at1).toNat (by omega) at1 (ks ++ [r1']) L1 rfl (by omega) g1 (by rw [hlen]; omega) (by rw [hlen]; omega) (by omega)
          rw [if_pos (by rw [hlen]; omega)] at i3
          have hdo : 200 < L1.length := by
            rcases w2 with w2 | w2
            · cases w2
            · exact w2
          have i4 := i3.wrong (bi2 := 643 - 2 * d) r2 σ2 f2 (.inr (by have := i3.len; omega)) (by omega)
          exact ⟨r2, σ2, r', τ', impl, Ev2.step hS (Ev2.bind (f := fun k j (r : Int × SS) => sAltL s (Rs k) j (ks ++ [r.1]) r.2) j2 i2), i4.comp (f := -1) j3'.len j3'.good (by omega) (by omega) (by split <;> omega) (by omega) (by omega) (by omega) (fun e => by rw [f2] at e; cases e)⟩
    · obtain ⟨r, σ', r', τ', e1, e2, e3⟩ := joined_same (n := s.size) (d := d) (a := a) (e2 := 2) (bi := 643 - 2 * d) (L := L) (ks := ks) (kind := 4) h1 (by omega) hk1 (by omega) (by omega)
      refine ⟨r, σ', r', τ', ⟨1, fun k j _ hj => ?_⟩, ⟨1, fun k j _ hj => ?_⟩, e3⟩
      · obtain ⟨j, rfl⟩ : ∃ q, j = q + 1 := ⟨j - 1, by omega⟩
        simp only [iWholeL]
        rw [if_neg (by simp)]
        by_cases h : a < s.size
        · rw [sees124 (by omega) h, Option.bind_some, if_neg (by rw [decide_eq_true_eq]; exact fun e => c ⟨h, e⟩), e1]
        · rw [sees_out (a := a) _ (by omega), Option.bind_some, if_neg (by simp), e1]
      · obtain ⟨j, rfl⟩ : ∃ q, j = q + 1 := ⟨j - 1, by omega⟩
        simp only [sAltL]
        rw [if_neg (by simp)]
        by_cases h : a < s.size
        · rw [if_pos (more_in h), peek_in (by omega) h, Option.bind_some, if_neg (fun e => c ⟨h, e⟩), e2]
        · rw [if_neg (by rw [more_out (a := a) (by omega)]; simp), e2]

theorem alt_same (hs : s.size ≤ 200) {d a : Int} {L : List S39} {Ri : Nat → IS → Option (Int × IS)} {Rs : Nat → SS → Option (Int × SS)} (hd0 : 0 ≤ d) (hd : d ≤ 20) (h0 : 0 ≤ a) (h1 : a ≤ s.size) (hL : (L.length : Int) ≤ 3 * a)
    (hR : ∀ (a' : Int) (L : List S39), a ≤ a' → a' ≤ s.size → (L.length : Int) ≤ 3 * a' → J s.size d 1 (642 - 2 * d) Ri Rs a' L) : J s.size d 2 (643 - 2 * d) (fun k => iWholeB s (Ri k) k) (fun k => sAltB s (Rs k) k) a L := by
  obtain ⟨r1, σ1, r1', τ1, j1, j2, j3⟩ := hR a L (Int.le_refl _) h1 hL
  have hge := j3.ge
  rcases j3.rel with ⟨w1, w2, q1, q2, q3, q4⟩ | ⟨w1, w2, w3⟩
  · obtain ⟨at1, dp1, L1, wr1⟩ := σ1
    obtain ⟨at2, L2, wr2⟩ := τ1
    dsimp only at w1 w2 q1 q2 q3 q4
    subst w1; subst w2; subst q1; subst q2; subst q3; subst q4
    obtain ⟨g1, g2, g3⟩ := j3.ok rfl
    dsimp only at g1 g2 g3 hge
    obtain ⟨r, σ', r', τ', i1, i2, i3⟩ := altL_same hs hd0 hd h0 hR _ at1 [r1] L1 rfl (by omega) g1 (by simp) (by simp; omega) (by omega)
    rw [if_neg (by simp)] at i3
    exact ⟨r, σ', r', τ', Ev.bind (f := fun n (r : Int × IS) => iWholeL s (Ri n) n [r.1] r.2) j1 i1.diag, Ev.bind (f := fun n (r : Int × SS) => sAltL s (Rs n) n [r.1] r.2) j2 i2.diag, i3.comp (f := -1) j3.len j3.good (by omega) (by omega) (by omega) (by omega) (by omega) (by omega) (fun _ hl => j3.lim rfl hl)⟩
  · obtain ⟨r2, σ2, f1, f2, f3⟩ := ijoin_wrong (kind := 4) (ks := [r1]) w1 (by omega)
    have impl : Ev (fun k => iWholeB s (Ri k) k ⟨a, d, L, false⟩) (r2, σ2) := Ev.bind (f := fun n (r : Int × IS) => iWholeL s (Ri n) n [r.1] r.2) j1 ⟨1, fun k hk => by
      obtain ⟨k, rfl⟩ : ∃ q, k = q + 1 := ⟨k - 1, by omega⟩
      exact (iwhole_exit (Ri (k + 1)) k w1).trans f1⟩
    cases hw : τ1.wr with
    | true =>
      obtain ⟨g1, g2⟩ := j3.bad hw
      obtain ⟨r2', τ2, p1, p2, p3, p4, p5, p6⟩ := sjoin_wrong (kind := 4) (ks := [r1']) hw (by omega) (by simp)
      refine ⟨r2, σ2, r2', τ2, impl, Ev.bind (f := fun n (r : Int × SS) => sAltL s (Rs n) n [r.1] r.2) j2 ⟨1, fun k hk => ?_⟩, out_joined j3 hw p2 p3 p4 p5 p6 f2 (by omega) (by omega)⟩
      obtain ⟨k, rfl⟩ : ∃ q, k = q + 1 := ⟨k - 1, by omega⟩
      exact (salt_exit (Rs (k + 1)) k hw).trans p1
    | false =>
      obtain ⟨g1, g2, g3⟩ := j3.ok hw
      obtain ⟨at1, L1, wr1⟩ := τ1
      dsimp only at hw g1 g2 g3 w2 hge
      subst hw
      obtain ⟨r, σ', r', τ', i1, i2, i3⟩ := altL_same hs hd0 hd h0 hR _ at1 [r1'] L1 rfl (by omega) g1 (by simp) (by simp; omega) (by omega)
      rw [if_neg (by simp)] at i3
      have hdo : 200 < L1.length := by
        rcases w2 with w2 | w2
        · cases w2
        · exact w2
      have i4 := i3.wrong (bi2 := 643 - 2 * d) r2 σ2 f2 (.inr (by have := i3.len; omega)) (by omega)
      exact ⟨r2, σ2, r', τ', impl, Ev.bind (f := fun n (r : Int × SS) => sAltL s (Rs n) n [r.1] r.2) j2 i2.diag, i4.comp (f := -1) j3.len j3.good (by omega) (by omega) (by omega) (by omega) (by omega) (by omega) (fun e => by rw [f2] at e; cases e)⟩

theorem ring_same (hs : s.size ≤ 200) : ∀ (m : Nat) (d a : Int) (L : List S39), (s.size - a).toNat = m → 0 ≤ d → d ≤ 20 → 0 ≤ a → a ≤ s.size → (L.length : Int) ≤ 3 * a → J s.size d 2 (643 - 2 * d) (iWhole s) (fun k => sAlt s k d) a L := by
  intro m
  induction m using Nat.strongRecOn with
  | _ m ih =>
    intro d a L hm hd0 hd h0 h1 hL
    have hA : ∀ (a' : Int) (L : List S39), a ≤ a' → a' ≤ s.size → (L.length : Int) ≤ 3 * a' → J s.size d 0 (641 - 2 * d) (fun k => iAtom s (iWhole s k) k) (fun k => sAtom s (sAlt s k) k d) a' L := fun a' L' g1 g2 g3 =>
      atom_same hs hd0 hd (by omega) g2 g3 (fun g4 g5 => ih (s.size - (a' + 1)).toNat (by omega) (d + 1) (a' + 1) L' rfl (by omega) (by omega) (by omega) (by omega) (by omega))
    have hRp : ∀ (a' : Int) (L : List S39), a ≤ a' → a' ≤ s.size → (L.length : Int) ≤ 3 * a' → J s.size d 0 (641 - 2 * d) (fun k => iRep s (iAtom s (iWhole s k) k) k) (fun k => sRep s (sAtom s (sAlt s k) k d) k) a' L := fun a' L' g1 g2 g3 =>
      rep_same hs hd0 hd (by omega) g3 (hA a' L' g1 g2 g3)
    have hSq : ∀ (a' : Int) (L : List S39), a ≤ a' → a' ≤ s.size → (L.length : Int) ≤ 3 * a' → J s.size d 1 (642 - 2 * d) (fun k => iPart s (iRep s (iAtom s (iWhole s k) k) k) k) (fun k => sSeq s (sRep s (sAtom s (sAlt s k) k d) k) k) a' L := fun a' L' g1 g2 g3 =>
      seq_same hs hd0 hd (by omega) g2 g3 (fun a2 L2 k1 k2 k3 => hRp a2 L2 (by omega) k2 k3)
    obtain ⟨r, σ', r', τ', j1, j2, j3⟩ := alt_same hs hd0 hd h0 h1 hL hSq
    exact ⟨r, σ', r', τ', Ev.step (fun k => rfl) j1, Ev.step (fun k => rfl) j2, j3⟩
end
theorem good_nil : Good [] := fun x h => by cases h
theorem both_same (s : ByteArray) : ∃ (R : List S39) (b : Bool), Ev (fun k => sReParse k s) (R, b) ∧ Ev (fun k => iReParse k s) (R, b) ∧ R.length ≤ 200 ∧ Good R := by
  by_cases h : (1 : Int) ≤ s.size ∧ (s.size : Int) ≤ 200
  · obtain ⟨r, σ', r', τ', j1, j2, j3⟩ := ring_same (s := s) (by omega) _ 0 0 [] rfl (by omega) (by omega) (by omega) (by omega) (by simp)
    have impl : Ev (fun k => iReParse k s) (if σ'.wr = true then (([], false) : List S39 × Bool) else if σ'.at_ = (s.size : Int) then (σ'.L, true) else ([], false)) := by
      obtain ⟨K, e⟩ := j1
      refine ⟨K, fun k hk => ?_⟩
      have ek : iWhole s k ⟨0, 0, [], false⟩ = _ := e k hk
      show iReParse k s = _
      unfold iReParse
      rw [if_pos h, ek, Option.bind_some]
      dsimp only
      by_cases c1 : σ'.wr = true
      · rw [if_pos c1, if_pos c1]
      · rw [if_neg c1, if_neg c1]
        by_cases c2 : σ'.at_ = (s.size : Int)
        · rw [if_pos c2, if_pos c2]
        · rw [if_neg c2, if_neg c2]
    have spec : Ev (fun k => sReParse k s) (if τ'.wr = true then (([], false) : List S39 × Bool) else if τ'.at_ = (s.size : Int) then (if (τ'.L.length : Int) > 200 then ([], false) else (τ'.L, true)) else ([], false)) := by
      obtain ⟨K, e⟩ := j2
      refine ⟨K, fun k hk => ?_⟩
      have ek : sAlt s k 0 ⟨0, [], false⟩ = _ := e k hk
      show sReParse k s = _
      unfold sReParse
      rw [if_neg (by omega), if_neg (by omega), ek, Option.bind_some]
      dsimp only
      by_cases c1 : τ'.wr = true
      · rw [if_pos c1, if_pos c1]
      · rw [if_neg c1, if_neg c1]
        by_cases c2 : τ'.at_ = (s.size : Int)
        · rw [if_pos c2, if_pos c2]
          by_cases c3 : (τ'.L.length : Int) > 200
          · rw [if_pos c3, if_pos c3]
          · rw [if_neg c3, if_neg c3]
        · rw [if_neg c2, if_neg c2]
    rcases j3.rel with ⟨w1, w2, q1, q2, q3, q4⟩ | ⟨w1, w2, w3⟩
    · have hl := j3.lim w1 (by simp)
      rw [w1, if_neg (by simp), q2, q3] at impl
      rw [w2, if_neg (by simp), if_neg (show ¬ (τ'.L.length : Int) > 200 by omega)] at spec
      by_cases c2 : τ'.at_ = (s.size : Int)
      · rw [if_pos c2] at impl spec
        exact ⟨_, _, spec, impl, hl, j3.good good_nil⟩
      · rw [if_neg c2] at impl spec
        exact ⟨_, _, spec, impl, by simp, good_nil⟩
    · rw [if_pos w1] at impl
      refine ⟨[], false, ?_, impl, by simp, good_nil⟩
      rcases w2 with w2 | w2
      · rw [if_pos w2] at spec
        exact spec
      · rw [if_pos (show (τ'.L.length : Int) > 200 by omega)] at spec
        have e0 : (if τ'.wr = true then (([], false) : List S39 × Bool) else if τ'.at_ = (s.size : Int) then ([], false) else ([], false)) = ([], false) := by
          split
          · rfl
          · split <;> rfl
        rw [e0] at spec
        exact spec
  · refine ⟨[], false, ⟨0, fun k _ => ?_⟩, ⟨0, fun k _ => ?_⟩, by simp, good_nil⟩
    · show sReParse k s = _
      unfold sReParse
      by_cases h2 : (s.size : Int) < 1
      · rw [if_pos h2]
      · rw [if_neg h2, if_pos (by omega)]
    · show iReParse k s = _
      unfold iReParse
      rw [if_neg h]
theorem pure_ReParse : PureReParse := by
  intro s hs
  obtain ⟨R, b, ⟨K1, e1⟩, ⟨K2, e2⟩, hl, hg⟩ := both_same s
  obtain ⟨K3, e3⟩ := eq_row R (by omega) (fun x hx => by have := hg x hx; omega)
  obtain ⟨L', m, hm, ⟨K4, e4⟩, ⟨K5, e5⟩⟩ := marks_ok R (by omega) hg
  refine ⟨K1 + K2 + K3 + K4 + K5, R, L', b, m, e1 _ (by omega), e2 _ (by omega), e3 _ (by omega), e4 _ (by omega), e5 _ (by omega), hm⟩
end Go.Proofs.Ytmddcohelcciaaa.PFnExactReParse.H
