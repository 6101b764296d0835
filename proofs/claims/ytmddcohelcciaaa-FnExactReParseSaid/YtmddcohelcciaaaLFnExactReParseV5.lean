/- the reference's ring, and its ReParse. -/
import Derived.Test.YtmddcohelcciaaaLFnExactReParseV4
namespace Go.Proofs.Ytmddcohelcciaaa.PFnExactReParse.H
open Go.RowKit Go.Proofs.YtmddcohelcciaaaW.PrintWords Go.Proofs.YtmddcohelcciaaaW.PrintLast Go.Proofs.YtmddcohelcciaaaW.PrintMore
attribute [local go_sem] max2_int min2_int max_two min_two max_three min_three max_four min_four   -- for this text's walks alone
set_option linter.unusedVariables false
set_option linter.unusedSimpArgs false

theorem sring_q (s : ByteArray) : ∀ n d, DoesS 27 s d (sAlt s n d)
  | 0, _ => fun P w0 w W g v σ r σ' _ _ h => by cases h
  | n + 1, d => salt_q (sseq_q (srep_q (satom_q (sring_q s n) n d) n) n) n
theorem QS.new {w W : World} {g : Nat} {s : ByteArray} (hb : Below w.heap.size w W) (hg : w.heap.size ≤ g) (hbox : W.heap[g]? = some (.cells #[.string ⟨#[]⟩, .int .i64 0, .slice none 0 0, .bool false] 50 (0, 0))) :
    QS (fun _ => True) w w ((((W.setCell ⟨g, 0, none⟩ (.string s)).setCell ⟨g, 1, none⟩ (.int .i64 0)).setCell ⟨g, 2, none⟩ (.slice none 0 0)).setCell ⟨g, 3, none⟩ (.bool false)) g s 0 (.slice none 0 0) [] false := by
  have h1 := below_set (j := 3) (v := .bool false) (below_set (j := 2) (v := .slice none 0 0) (below_set (j := 1) (v := .int .i64 0) (below_set (j := 0) (v := .string s) hb hg) hg) hg) hg
  refine ⟨⟨⟨?_, hg⟩, Kd.S_nil _ _ _ _ _⟩, ⟨h1.size, fun i hi hn => absurd (.inr trivial) hn⟩, h1⟩
  exact blk_put (cs := #[.string s, .int .i64 0, .slice none 0 0, .bool false]) (blk_put (cs := #[.string s, .int .i64 0, .slice none 0 0, .bool false]) (blk_put (cs := #[.string s, .int .i64 0, .slice none 0 0, .bool false]) (blk_put (cs := #[.string ⟨#[]⟩, .int .i64 0, .slice none 0 0, .bool false]) hbox 0 _ rfl) 1 _ rfl) 2 _ rfl) 3 _ rfl
set_option maxHeartbeats 8000000 in
set_option maxRecDepth 100000 in
theorem sReParse_q (n : Nat) (s : ByteArray) (r1 : List S39) (r2 : Bool) (w : World) (h : sReParse n s = some (r1, r2)) :
    Calls Try.prog 13 #[.string s] w fun e w' => ∃ v0_ : Value, e = .returned (.tuple #[v0_, .bool r2]) ∧ Kd.S k39 39 w' w.heap.size (fun _ => True) v0_ r1 ∧ Below w.heap.size w w' := by
  have hu50 := Try.underlying50
  have HB := Aside0.mk (Below.refl w.heap.size w)
  unfold sReParse at h
  by_cases c1 : (s.size : Int) < 1
  · rw [if_pos c1] at h
    have c1b : decide ((s.size : Int) < 1) = true := decide_eq_true c1
    simp only [Option.some.injEq, Prod.mk.injEq] at h
    obtain ⟨rfl, rfl⟩ := h
    go_enter Try.func13, Try.ntmps13
    go_wp2
    go_ret2
    exact ⟨_, rfl, Kd.S_nil _ _ _ _ _, HB.out⟩
  · rw [if_neg c1] at h
    have c1b : decide ((s.size : Int) < 1) = false := decide_eq_false c1
    by_cases c2 : (s.size : Int) > 200
    · rw [if_pos c2] at h
      have c2b : decide (200 < (s.size : Int)) = true := decide_eq_true c2
      simp only [Option.some.injEq, Prod.mk.injEq] at h
      obtain ⟨rfl, rfl⟩ := h
      go_enter Try.func13, Try.ntmps13
      go_wp2
      go_ret2
      exact ⟨_, rfl, Kd.S_nil _ _ _ _ _, HB.out⟩
    · rw [if_neg c2] at h
      have c2b : decide (200 < (s.size : Int)) = false := decide_eq_false c2
      obtain ⟨⟨k, a5, L5, wr5⟩, hw, H⟩ := Option.bind_eq_some_iff.mp h
      have HW := Aside0.mk hw
      clear hw h
      dsimp only at H
      go_enter Try.func13, Try.ntmps13
      go_upto_region 4 with (first
        | ((with_reducible refine gate_dst (N := 4) rfl ?_); refine box_event ?hg (N := 4) ?hd (cs := #[.string ⟨#[]⟩, .int .i64 0, .slice none 0 0, .bool false]) (t := 50) ?hr ?_; (case hd => rfl); (case hg => rfl); (case hr => first | (go_simp; done) | (go_simp; rfl)); intro g hg w4 hbox hb; have n0_ := Aside0.mk (QS.new (s := s) hb (Nat.le_of_eq hg.symm) hbox); have hc0 : w4.cell? ⟨g, 0, none⟩ = some (.string ⟨#[]⟩) := (blk_cell hbox 0).trans rfl; have hc1 : w4.cell? ⟨g, 1, none⟩ = some (.int .i64 0) := (blk_cell hbox 1).trans rfl; have hc2 : w4.cell? ⟨g, 2, none⟩ = some (.slice none 0 0) := (blk_cell hbox 2).trans rfl; have hc3 : w4.cell? ⟨g, 3, none⟩ = some (.bool false) := (blk_cell hbox 3).trans rfl; have hf0 := blk_frozen hbox 0; have hf1 := blk_frozen hbox 1; have hf2 := blk_frozen hbox 2; have hf3 := blk_frozen hbox 3; clear hg hb; have HQ := n0_; clear n0_))
      generalize World.setCell _ ⟨g, 3, none⟩ (.bool false) = w5 at HQ ⊢
      clear hc0 hc1 hc2 hc3 hf0 hf1 hf2 hf3 hbox
      go_upto_region 5 with (first
        | (go_at_call 27; (with_reducible refine (sring_q s n 0 (fun _ => True) w w _ g _ ⟨0, [], false⟩ k ⟨a5, L5, wr5⟩ (fun _ _ => trivial) HQ.out HW.out).mono ?_); rintro e w9 ⟨rfl, v9, hq⟩; have n0_ := Aside0.mk hq; clear HQ hq; have HQ := n0_; clear n0_))
      obtain ⟨A9, c9, rfl⟩ := Kd.S_slice HQ.out.pi.2
      have hc1 := cellS50_1 HQ.out.pi.1.1
      have hc2 := cellS50_2 HQ.out.pi.1.1
      have hc3 := cellS50_3 HQ.out.pi.1.1
      cases wr5
      · rw [if_neg (by decide)] at H
        by_cases c3 : a5 = (s.size : Int)
        · rw [if_pos c3] at H
          have c3b : (a5 != (s.size : Int)) = false := bne_eq_false_iff_eq.mpr c3
          by_cases c4 : (L5.length : Int) > 200
          · rw [if_pos c4] at H
            have c4b : decide (200 < (L5.length : Int)) = true := decide_eq_true c4
            have c4c : decide (200 < L5.length) = true := decide_eq_true (by omega)
            simp only [Option.some.injEq, Prod.mk.injEq] at H
            obtain ⟨rfl, rfl⟩ := H
            go_wp2
            go_ret2
            exact ⟨_, rfl, Kd.S_nil _ _ _ _ _, HQ.out.below⟩
          · rw [if_neg c4] at H
            have c4b : decide (200 < (L5.length : Int)) = false := decide_eq_false c4
            have c4c : decide (200 < L5.length) = false := decide_eq_false (by omega)
            simp only [Option.some.injEq, Prod.mk.injEq] at H
            obtain ⟨rfl, rfl⟩ := H
            go_wp2
            go_ret2
            exact ⟨_, rfl, Kd.S_mono HQ.out.pi.2 (fun _ _ => trivial), HQ.out.below⟩
        · rw [if_neg c3] at H
          have c3b : (a5 != (s.size : Int)) = true := bne_iff_ne.mpr c3
          simp only [Option.some.injEq, Prod.mk.injEq] at H
          obtain ⟨rfl, rfl⟩ := H
          go_wp2
          go_ret2
          exact ⟨_, rfl, Kd.S_nil _ _ _ _ _, HQ.out.below⟩
      · rw [if_pos rfl] at H
        simp only [Option.some.injEq, Prod.mk.injEq] at H
        obtain ⟨rfl, rfl⟩ := H
        go_wp2
        go_ret2
        exact ⟨_, rfl, Kd.S_nil _ _ _ _ _, HQ.out.below⟩
end Go.Proofs.Ytmddcohelcciaaa.PFnExactReParse.H
