-- XPRINTED: written by a program of this session (wip/xprint), which turns the kit's print
import Derived.Test.YtmddcohelcciaaaPFnExactReTextx0
import Derived.Test.YtmddcohelcciaaaPFnExactReTextx6
namespace Go.Proofs.Ytmddcohelcciaaa.PFnExactReText
open Go.RowKit Go.Proofs.YtmddcohelcciaaaW.PrintWords Go.Proofs.YtmddcohelcciaaaW.PrintLast Go.Proofs.YtmddcohelcciaaaW.PrintMore
attribute [local go_sem] max2_int min2_int max_two min_two max_three min_three max_four min_four   -- for this text's walks alone
set_option linter.unusedVariables false
set_option linter.unusedSimpArgs false

/-! ### spec_l2text: function 25 -/
mutual
def spec_l2text.l0 : Nat → List (S39) → ByteArray → Int → Int → Int → Bool → ByteArray → List Int → Option (ByteArray × Int)
  | 0, _, _, _, _, _, _, _, _ => none
  | k + 1, x0, x7, x8, x9, x163000, x163001, x163002, x163003 => if x9 < (x163003.length : Int) then (if 0 ≤ x9 then ((spec_l2text.f k x0 (rd x163003 x9)).bind fun bt165 => (if bt165.2 < 0 then (some ((⟨#[]⟩ : ByteArray), (-1))) else (if 0 ≤ (rd x163003 x9) then (if (rd x163003 x9) < (x0.length : Int) then (if ((rd_T39 x0 (rd x163003 x9)).f0) = 4 then (spec_l2text.j1 k x0 x7 x8 x9 bt165.1 bt165.2 true x163000 x163001 x163002 x163003) else (if ((rd_T39 x0 (rd x163003 x9)).f0) = 3 then (spec_l2text.j1 k x0 x7 x8 x9 bt165.1 bt165.2 (x163000 != 4) x163000 x163001 x163002 x163003) else (spec_l2text.j1 k x0 x7 x8 x9 bt165.1 bt165.2 false x163000 x163001 x163002 x163003))) else (none)) else (none)))) else (none)) else (if x163000 = 5 then (if x7.size + 1 ≤ 9223372036854775807 then (if x8 > 20 then (some ((⟨#[]⟩ : ByteArray), (-1))) else (if ((x7 ++ (⟨#[42]⟩ : ByteArray)).size : Int) > 200 then (some ((⟨#[]⟩ : ByteArray), (-1))) else (some (x7 ++ (⟨#[42]⟩ : ByteArray), x8)))) else (none)) else (if x163000 = 6 then (if x7.size + 1 ≤ 9223372036854775807 then (if x8 > 20 then (some ((⟨#[]⟩ : ByteArray), (-1))) else (if ((x7 ++ (⟨#[43]⟩ : ByteArray)).size : Int) > 200 then (some ((⟨#[]⟩ : ByteArray), (-1))) else (some (x7 ++ (⟨#[43]⟩ : ByteArray), x8)))) else (none)) else (if x163000 = 7 then (if x7.size + 1 ≤ 9223372036854775807 then (if x8 > 20 then (some ((⟨#[]⟩ : ByteArray), (-1))) else (if ((x7 ++ (⟨#[63]⟩ : ByteArray)).size : Int) > 200 then (some ((⟨#[]⟩ : ByteArray), (-1))) else (some (x7 ++ (⟨#[63]⟩ : ByteArray), x8)))) else (none)) else (if x8 > 20 then (some ((⟨#[]⟩ : ByteArray), (-1))) else (if (x7.size : Int) > 200 then (some ((⟨#[]⟩ : ByteArray), (-1))) else (some (x7, x8)))))))
def spec_l2text.j1 : Nat → List (S39) → ByteArray → Int → Int → ByteArray → Int → Bool → Int → Bool → ByteArray → List Int → Option (ByteArray × Int)
  | 0, _, _, _, _, _, _, _, _, _, _, _ => none
  | k + 1, x0, x7, x8, x9, x10, x11, x65, x163000, x163001, x163002, x163003 => if x65 = true then (if 1 + x10.size ≤ 9223372036854775807 then (if ((⟨#[40]⟩ : ByteArray) ++ x10).size + 1 ≤ 9223372036854775807 then (spec_l2text.j2 k x0 x7 x8 x9 (((⟨#[40]⟩ : ByteArray) ++ x10) ++ (⟨#[41]⟩ : ByteArray)) (wrap64 (x11 + 1)) x163000 x163001 x163002 x163003) else (none)) else (none)) else (spec_l2text.j2 k x0 x7 x8 x9 x10 x11 x163000 x163001 x163002 x163003)
def spec_l2text.j2 : Nat → List (S39) → ByteArray → Int → Int → ByteArray → Int → Int → Bool → ByteArray → List Int → Option (ByteArray × Int)
  | 0, _, _, _, _, _, _, _, _, _, _ => none
  | k + 1, x0, x7, x8, x9, x10, x11, x163000, x163001, x163002, x163003 => if x9 > 0 then (spec_l2text.j3 k x0 x7 x8 x9 x10 x11 (x163000 == 4) x163000 x163001 x163002 x163003) else (spec_l2text.j3 k x0 x7 x8 x9 x10 x11 false x163000 x163001 x163002 x163003)
def spec_l2text.j3 : Nat → List (S39) → ByteArray → Int → Int → ByteArray → Int → Bool → Int → Bool → ByteArray → List Int → Option (ByteArray × Int)
  | 0, _, _, _, _, _, _, _, _, _, _, _ => none
  | k + 1, x0, x7, x8, x9, x10, x11, x77, x163000, x163001, x163002, x163003 => if x77 = true then (if x7.size + 1 ≤ 9223372036854775807 then (if (x7 ++ (⟨#[124]⟩ : ByteArray)).size + x10.size ≤ 9223372036854775807 then (if x11 > x8 then (spec_l2text.l0 k x0 ((x7 ++ (⟨#[124]⟩ : ByteArray)) ++ x10) x11 (wrap64 (x9 + 1)) x163000 x163001 x163002 x163003) else (spec_l2text.l0 k x0 ((x7 ++ (⟨#[124]⟩ : ByteArray)) ++ x10) x8 (wrap64 (x9 + 1)) x163000 x163001 x163002 x163003)) else (none)) else (none)) else (if x7.size + x10.size ≤ 9223372036854775807 then (if x11 > x8 then (spec_l2text.l0 k x0 (x7 ++ x10) x11 (wrap64 (x9 + 1)) x163000 x163001 x163002 x163003) else (spec_l2text.l0 k x0 (x7 ++ x10) x8 (wrap64 (x9 + 1)) x163000 x163001 x163002 x163003)) else (none))
def spec_l2text.f : Nat → List (S39) → Int → Option (ByteArray × Int)
  | 0, _, _ => none
  | k + 1, l0, a1 => if 0 ≤ a1 then (if a1 < (l0.length : Int) then (if ((rd_T39 l0 a1).f0) = 0 then ((spec_l2setText.f k ((rd_T39 l0 a1).f0) ((rd_T39 l0 a1).f1) ((rd_T39 l0 a1).f2) ((rd_T39 l0 a1).f3)).bind fun t163 => (some (t163, 0))) else (if ((rd_T39 l0 a1).f0) = 1 then (some ((⟨#[94]⟩ : ByteArray), 0)) else (if ((rd_T39 l0 a1).f0) = 2 then (some ((⟨#[36]⟩ : ByteArray), 0)) else (spec_l2text.l0 k l0 (⟨#[]⟩ : ByteArray) 0 0 ((rd_T39 l0 a1).f0) ((rd_T39 l0 a1).f1) ((rd_T39 l0 a1).f2) ((rd_T39 l0 a1).f3))))) else (none)) else (none)
end
theorem spec_l2text.mono_l : ∀ k, (∀ y0 y1, LeO (spec_l2text.f k y0 y1) (spec_l2text.f (k + 1) y0 y1)) ∧ (∀ y0 y1 y2 y3 y4 y5 y6 y7, LeO (spec_l2text.l0 k y0 y1 y2 y3 y4 y5 y6 y7) (spec_l2text.l0 (k + 1) y0 y1 y2 y3 y4 y5 y6 y7)) ∧ (∀ y0 y1 y2 y3 y4 y5 y6 y7 y8 y9 y10, LeO (spec_l2text.j1 k y0 y1 y2 y3 y4 y5 y6 y7 y8 y9 y10) (spec_l2text.j1 (k + 1) y0 y1 y2 y3 y4 y5 y6 y7 y8 y9 y10)) ∧ (∀ y0 y1 y2 y3 y4 y5 y6 y7 y8 y9, LeO (spec_l2text.j2 k y0 y1 y2 y3 y4 y5 y6 y7 y8 y9) (spec_l2text.j2 (k + 1) y0 y1 y2 y3 y4 y5 y6 y7 y8 y9)) ∧ (∀ y0 y1 y2 y3 y4 y5 y6 y7 y8 y9 y10, LeO (spec_l2text.j3 k y0 y1 y2 y3 y4 y5 y6 y7 y8 y9 y10) (spec_l2text.j3 (k + 1) y0 y1 y2 y3 y4 y5 y6 y7 y8 y9 y10))
  | 0 => ⟨fun _ _ r h => by simp [spec_l2text.f] at h, fun _ _ _ _ _ _ _ _ r h => by simp [spec_l2text.l0] at h, fun _ _ _ _ _ _ _ _ _ _ _ r h => by simp [spec_l2text.j1] at h, fun _ _ _ _ _ _ _ _ _ _ r h => by simp [spec_l2text.j2] at h, fun _ _ _ _ _ _ _ _ _ _ _ r h => by simp [spec_l2text.j3] at h⟩
  | k + 1 => by
    obtain ⟨ih0, ih1, ih2, ih3, ih4⟩ := spec_l2text.mono_l k
    refine ⟨?_, ?_, ?_, ?_, ?_⟩
    · intro y0 y1
      unfold spec_l2text.f
      repeat' first
      | (with_reducible exact ih0 _ _)
      | (with_reducible exact ih1 _ _ _ _ _ _ _ _)
      | (with_reducible exact ih2 _ _ _ _ _ _ _ _ _ _ _)
      | (with_reducible exact ih3 _ _ _ _ _ _ _ _ _ _)
      | (with_reducible exact ih4 _ _ _ _ _ _ _ _ _ _ _)
      | (with_reducible exact spec_l2setText.mono _ _ _ _ _)
      | (with_reducible exact LeO.refl _)
      | (with_reducible exact LeO.none _)
      | (with_reducible refine LeO.ite ?_ ?_)
      | (with_reducible refine LeO.bind ?_ (fun _ => ?_))
      | exact ih0 _ _
      | exact ih1 _ _ _ _ _ _ _ _
      | exact ih2 _ _ _ _ _ _ _ _ _ _ _
      | exact ih3 _ _ _ _ _ _ _ _ _ _
      | exact ih4 _ _ _ _ _ _ _ _ _ _ _
      | exact spec_l2setText.mono _ _ _ _ _
      | exact LeO.none _
      | refine LeO.ite ?_ ?_
      | refine LeO.bind ?_ (fun _ => ?_)
    · intro y0 y1 y2 y3 y4 y5 y6 y7
      unfold spec_l2text.l0
      repeat' first
      | (with_reducible exact ih0 _ _)
      | (with_reducible exact ih1 _ _ _ _ _ _ _ _)
      | (with_reducible exact ih2 _ _ _ _ _ _ _ _ _ _ _)
      | (with_reducible exact ih3 _ _ _ _ _ _ _ _ _ _)
      | (with_reducible exact ih4 _ _ _ _ _ _ _ _ _ _ _)
      | (with_reducible exact spec_l2setText.mono _ _ _ _ _)
      | (with_reducible exact LeO.refl _)
      | (with_reducible exact LeO.none _)
      | (with_reducible refine LeO.ite ?_ ?_)
      | (with_reducible refine LeO.bind ?_ (fun _ => ?_))
      | exact ih0 _ _
      | exact ih1 _ _ _ _ _ _ _ _
      | exact ih2 _ _ _ _ _ _ _ _ _ _ _
      | exact ih3 _ _ _ _ _ _ _ _ _ _
      | exact ih4 _ _ _ _ _ _ _ _ _ _ _
      | exact spec_l2setText.mono _ _ _ _ _
      | exact LeO.none _
      | refine LeO.ite ?_ ?_
      | refine LeO.bind ?_ (fun _ => ?_)
    · intro y0 y1 y2 y3 y4 y5 y6 y7 y8 y9 y10
      unfold spec_l2text.j1
      repeat' first
      | (with_reducible exact ih0 _ _)
      | (with_reducible exact ih1 _ _ _ _ _ _ _ _)
      | (with_reducible exact ih2 _ _ _ _ _ _ _ _ _ _ _)
      | (with_reducible exact ih3 _ _ _ _ _ _ _ _ _ _)
      | (with_reducible exact ih4 _ _ _ _ _ _ _ _ _ _ _)
      | (with_reducible exact spec_l2setText.mono _ _ _ _ _)
      | (with_reducible exact LeO.refl _)
      | (with_reducible exact LeO.none _)
      | (with_reducible refine LeO.ite ?_ ?_)
      | (with_reducible refine LeO.bind ?_ (fun _ => ?_))
      | exact ih0 _ _
      | exact ih1 _ _ _ _ _ _ _ _
      | exact ih2 _ _ _ _ _ _ _ _ _ _ _
      | exact ih3 _ _ _ _ _ _ _ _ _ _
      | exact ih4 _ _ _ _ _ _ _ _ _ _ _
      | exact spec_l2setText.mono _ _ _ _ _
      | exact LeO.none _
      | refine LeO.ite ?_ ?_
      | refine LeO.bind ?_ (fun _ => ?_)
    · intro y0 y1 y2 y3 y4 y5 y6 y7 y8 y9
      unfold spec_l2text.j2
      repeat' first
      | (with_reducible exact ih0 _ _)
      | (with_reducible exact ih1 _ _ _ _ _ _ _ _)
      | (with_reducible exact ih2 _ _ _ _ _ _ _ _ _ _ _)
      | (with_reducible exact ih3 _ _ _ _ _ _ _ _ _ _)
      | (with_reducible exact ih4 _ _ _ _ _ _ _ _ _ _ _)
      | (with_reducible exact spec_l2setText.mono _ _ _ _ _)
      | (with_reducible exact LeO.refl _)
      | (with_reducible exact LeO.none _)
      | (with_reducible refine LeO.ite ?_ ?_)
      | (with_reducible refine LeO.bind ?_ (fun _ => ?_))
      | exact ih0 _ _
      | exact ih1 _ _ _ _ _ _ _ _
      | exact ih2 _ _ _ _ _ _ _ _ _ _ _
      | exact ih3 _ _ _ _ _ _ _ _ _ _
      | exact ih4 _ _ _ _ _ _ _ _ _ _ _
      | exact spec_l2setText.mono _ _ _ _ _
      | exact LeO.none _
      | refine LeO.ite ?_ ?_
      | refine LeO.bind ?_ (fun _ => ?_)
    · intro y0 y1 y2 y3 y4 y5 y6 y7 y8 y9 y10
      unfold spec_l2text.j3
      repeat' first
      | (with_reducible exact ih0 _ _)
      | (with_reducible exact ih1 _ _ _ _ _ _ _ _)
      | (with_reducible exact ih2 _ _ _ _ _ _ _ _ _ _ _)
      | (with_reducible exact ih3 _ _ _ _ _ _ _ _ _ _)
      | (with_reducible exact ih4 _ _ _ _ _ _ _ _ _ _ _)
      | (with_reducible exact spec_l2setText.mono _ _ _ _ _)
      | (with_reducible exact LeO.refl _)
      | (with_reducible exact LeO.none _)
      | (with_reducible refine LeO.ite ?_ ?_)
      | (with_reducible refine LeO.bind ?_ (fun _ => ?_))
      | exact ih0 _ _
      | exact ih1 _ _ _ _ _ _ _ _
      | exact ih2 _ _ _ _ _ _ _ _ _ _ _
      | exact ih3 _ _ _ _ _ _ _ _ _ _
      | exact ih4 _ _ _ _ _ _ _ _ _ _ _
      | exact spec_l2setText.mono _ _ _ _ _
      | exact LeO.none _
      | refine LeO.ite ?_ ?_
      | refine LeO.bind ?_ (fun _ => ?_)
theorem spec_l2text.mono : ∀ a0 a1 k, LeO (spec_l2text.f k a0 a1) (spec_l2text.f (k + 1) a0 a1) := by
  intro a0 a1 k
  obtain ⟨ih0, ih1, ih2, ih3, ih4⟩ := spec_l2text.mono_l k
  exact ih0 a0 a1
set_option maxHeartbeats 8000000 in
set_option maxRecDepth 100000 in
theorem spec_l2text.calls (k : Nat) : ∀ (A0 : Option Addr) (c0 : Nat) (l0 : List (S39)) (a1 : Int) (r1 : ByteArray) (r2 : Int) (w : World) (hr0 : Kd.C k39 w A0 l0.length l0) (hc0 : l0.length ≤ c0) (h : spec_l2text.f k l0 a1 = some (r1, r2)),
    Calls Try.prog 25 #[.slice A0 l0.length c0, .int .i64 a1] w fun e w' => e = .returned (.tuple #[.string r1, .int .i64 r2]) ∧ Below w.heap.size w w' := by
  induction k using Nat.strongRecOn with
  | _ k ih =>
  intro A0 c0 l0 a1 r1 r2 w hr0 hc0 h
  cases k with
  | zero => exact absurd h (by simp [spec_l2text.f])
  | succ k =>
  simp only [spec_l2text.f] at h
  have hu39 := Try.underlying39
  have HR0 := Aside0.mk hr0
  have HC0 := Aside0.mk hc0
  clear hr0 hc0
  have HB := Aside0.mk (Below.refl w.heap.size w)
  have H : (if 0 ≤ a1 then (if a1 < (l0.length : Int) then (if ((rd_T39 l0 a1).f0) = 0 then ((spec_l2setText.f k ((rd_T39 l0 a1).f0) ((rd_T39 l0 a1).f1) ((rd_T39 l0 a1).f2) ((rd_T39 l0 a1).f3)).bind fun t163 => (some (t163, 0))) else (if ((rd_T39 l0 a1).f0) = 1 then (some ((⟨#[94]⟩ : ByteArray), 0)) else (if ((rd_T39 l0 a1).f0) = 2 then (some ((⟨#[36]⟩ : ByteArray), 0)) else (spec_l2text.l0 k l0 (⟨#[]⟩ : ByteArray) 0 0 ((rd_T39 l0 a1).f0) ((rd_T39 l0 a1).f1) ((rd_T39 l0 a1).f2) ((rd_T39 l0 a1).f3))))) else (none)) else (none)) = some (r1, r2) := h
  clear h
  by_cases c3 : 0 ≤ a1
  · rw [if_pos c3] at H
    have c3b0 : decide (0 ≤ a1) = true := decide_eq_true c3
    clear c3
    by_cases c4 : a1 < (l0.length : Int)
    · rw [if_pos c4] at H
      have c4b0 : decide (a1 < (l0.length : Int)) = true := decide_eq_true c4
      clear c4
      by_cases c5 : ((rd_T39 l0 a1).f0) = 0
      · rw [if_pos c5] at H
        have c5b0 : (((rd_T39 l0 a1).f0) == 0) = true := beq_iff_eq.mpr c5
        have c5b1 : (((rd_T39 l0 a1).f0) != 0) = false := bne_eq_false_iff_eq.mpr c5
        clear c5
        replace H := Option.bind_eq_some_iff.mp H
        obtain ⟨t163, A60, H⟩ := H
        replace H : (some (t163, 0)) = some (r1, r2) := H
        have A6 := Aside0.mk A60
        clear A60
        simp only [Option.some.injEq, Prod.mk.injEq] at H
        obtain ⟨rfl, rfl⟩ := H
        have p161 : 0 ≤ (a1 : Int) := of_decide_eq_true (by first | (with_reducible assumption) | assumption)
        have q161 : a1 < (l0.length : Int) := of_decide_eq_true (by first | (with_reducible assumption) | assumption)
        obtain ⟨ad161, A161_3, c161_3, e161, hx161_0, hx161_1, hx161_2, hx161_3, hl161_3, hi161_3⟩ := at_T39 HR0.out a1 p161 q161
        cases e161
        have HR161_3 := Aside0.mk hi161_3
        have HC161_3 := Aside0.mk hl161_3
        clear hi161_3 hl161_3
        replace p161 := eq_true p161
        replace q161 := eq_true q161
        go_enter Try.func25, Try.ntmps25
        go_wp2_with (first | ((with_reducible refine gate_dst (N := 6) rfl ?_); (try (refine gate_guard (by rfl) ?_; dsimp only)); refine box_event ?hg (N := 6) ?hd (cs := #[.int .i64 0, .bool false, .string (⟨#[]⟩ : ByteArray), .slice none 0 0]) (t := 39) ?hr ?_; (case hd => rfl); (case hg => rfl); (case hr => first | (go_simp; done) | (go_simp; rfl)); intro gb162 hg w7 hbox hb; have n0_ := Aside0.mk (below_step (carH HB.out) hb); have n1_ := Aside0.mk (hbox); have n2_ := Aside0.mk ((by rw [hg]; exact (below_size (carH HB.out)) : w.heap.size ≤ gb162)); have n3_ := Aside0.mk ((by rw [hg]; exact (below_size (carH HB.out)) : w.heap.size ≤ gb162)); clear HB; have HB := n0_; have BK162 := n1_; have GW162 := n2_; have GE162 := n3_; clear n0_ n1_ n2_ n3_; clear hb hbox hg; have hcz8_0 : w7.cell? ⟨gb162, 0, none⟩ = some (.int .i64 0) := (blk_cell BK162.out 0).trans rfl; have hcz8_1 : w7.cell? ⟨gb162, 1, none⟩ = some (.bool false) := (blk_cell BK162.out 1).trans rfl; have hcz8_2 : w7.cell? ⟨gb162, 2, none⟩ = some (.string (⟨#[]⟩ : ByteArray)) := (blk_cell BK162.out 2).trans rfl; have hcz8_3 : w7.cell? ⟨gb162, 3, none⟩ = some (.slice none 0 0) := (blk_cell BK162.out 3).trans rfl; have hfz8_0 := blk_frozen BK162.out 0; have hfz8_1 := blk_frozen BK162.out 1; have hfz8_2 := blk_frozen BK162.out 2; have hfz8_3 := blk_frozen BK162.out 3) | ((with_reducible refine gate_callee (f := 37) rfl ?_); refine goesL_ (some 22) rfl rfl Try.func37 (by kernel_rfl) rfl #[.agg #[.int .i64 ((rd_T39 l0 a1).f0), .bool ((rd_T39 l0 a1).f1), .string ((rd_T39 l0 a1).f2), .slice A161_3 ((rd_T39 l0 a1).f3).length c161_3]] rfl (by (try simp only [List.map_toArray, List.map_cons, List.map_nil]); first | done | rfl | (simp only [List.length_drop, List.length_take]; rfl)) ?_; (with_reducible refine (spec_l2setText.calls k ((rd_T39 l0 a1).f0) ((rd_T39 l0 a1).f1) ((rd_T39 l0 a1).f2) _ _ ((rd_T39 l0 a1).f3) t163 _ ?side1 ?side2 A6.out).mono ?_); (case side1 => exact Kd.C_below HR161_3.out (carH HB.out)); (case side2 => exact HC161_3.out); rintro e w9 ⟨rfl, hb⟩; refine ⟨_, rfl, ?_⟩; have n0_ := Aside0.mk (blk_below (g := gb162) (o := .cells #[.int .i64 ((rd_T39 l0 a1).f0), .bool ((rd_T39 l0 a1).f1), .string ((rd_T39 l0 a1).f2), .slice A161_3 ((rd_T39 l0 a1).f3).length c161_3] 39 (0, 0)) (by (with_reducible repeat (first | refine blk_drewN ?_ _ | refine blk_drew ?_ | refine blk_alloc ?_ _)); refine blk_put (cs := #[.int .i64 ((rd_T39 l0 a1).f0), .bool ((rd_T39 l0 a1).f1), .string ((rd_T39 l0 a1).f2), .slice none 0 0]) ?_ 3 _ rfl; (with_reducible repeat (first | refine blk_drewN ?_ _ | refine blk_drew ?_ | refine blk_alloc ?_ _)); refine blk_put (cs := #[.int .i64 ((rd_T39 l0 a1).f0), .bool ((rd_T39 l0 a1).f1), .string (⟨#[]⟩ : ByteArray), .slice none 0 0]) ?_ 2 _ rfl; (with_reducible repeat (first | refine blk_drewN ?_ _ | refine blk_drew ?_ | refine blk_alloc ?_ _)); refine blk_put (cs := #[.int .i64 ((rd_T39 l0 a1).f0), .bool false, .string (⟨#[]⟩ : ByteArray), .slice none 0 0]) ?_ 1 _ rfl; (with_reducible repeat (first | refine blk_drewN ?_ _ | refine blk_drew ?_ | refine blk_alloc ?_ _)); refine blk_put (cs := #[.int .i64 0, .bool false, .string (⟨#[]⟩ : ByteArray), .slice none 0 0]) ?_ 0 _ rfl; (with_reducible repeat (first | refine blk_drewN ?_ _ | refine blk_drew ?_ | refine blk_alloc ?_ _)); exact BK162.out) hb); have n1_ := Aside0.mk (below_step (carH HB.out) hb); clear BK162; clear HB; have BK162 := n0_; have HB := n1_; clear n0_ n1_; (try clear hb); (try clear hb2); (try clear hk); (try clear hi)))
        go_ret2
        exact ⟨by first | rfl | (simp [errW_none, errW_some] <;> rfl) | (simp [*, errW_none, errW_some] <;> rfl) | (simp only [xne_nil, xeq_nil]; first | rfl | (simp [errW_none, errW_some] <;> rfl)), by repeat (first | (with_reducible first | exact HB.out | apply below_alloc | apply pw_below_drewN | apply below_drew1 | refine below_set ?_ GE162.out) | exact HB.out)⟩
      · rw [if_neg c5] at H
        have c5b0 : (((rd_T39 l0 a1).f0) == 0) = false := beq_eq_false_iff_ne.mpr c5
        have c5b1 : (((rd_T39 l0 a1).f0) != 0) = true := bne_iff_ne.mpr c5
        by_cases c10 : ((rd_T39 l0 a1).f0) = 1
        · rw [if_pos c10] at H
          have c10b0 : (((rd_T39 l0 a1).f0) == 1) = true := beq_iff_eq.mpr c10
          have c10b1 : (((rd_T39 l0 a1).f0) != 1) = false := bne_eq_false_iff_eq.mpr c10
          clear c10
          simp only [Option.some.injEq, Prod.mk.injEq] at H
          obtain ⟨rfl, rfl⟩ := H
          have p161 : 0 ≤ (a1 : Int) := of_decide_eq_true (by first | (with_reducible assumption) | assumption)
          have q161 : a1 < (l0.length : Int) := of_decide_eq_true (by first | (with_reducible assumption) | assumption)
          obtain ⟨ad161, A161_3, c161_3, e161, hx161_0, hx161_1, hx161_2, hx161_3, hl161_3, hi161_3⟩ := at_T39 HR0.out a1 p161 q161
          cases e161
          have HR161_3 := Aside0.mk hi161_3
          have HC161_3 := Aside0.mk hl161_3
          clear hi161_3 hl161_3
          replace p161 := eq_true p161
          replace q161 := eq_true q161
          go_enter Try.func25, Try.ntmps25
          go_wp2_with (first | ((with_reducible refine gate_dst (N := 6) rfl ?_); (try (refine gate_guard (by rfl) ?_; dsimp only)); refine box_event ?hg (N := 6) ?hd (cs := #[.int .i64 0, .bool false, .string (⟨#[]⟩ : ByteArray), .slice none 0 0]) (t := 39) ?hr ?_; (case hd => rfl); (case hg => rfl); (case hr => first | (go_simp; done) | (go_simp; rfl)); intro gb162 hg w11 hbox hb; have n0_ := Aside0.mk (below_step (carH HB.out) hb); have n1_ := Aside0.mk (hbox); have n2_ := Aside0.mk ((by rw [hg]; exact (below_size (carH HB.out)) : w.heap.size ≤ gb162)); have n3_ := Aside0.mk ((by rw [hg]; exact (below_size (carH HB.out)) : w.heap.size ≤ gb162)); clear HB; have HB := n0_; have BK162 := n1_; have GW162 := n2_; have GE162 := n3_; clear n0_ n1_ n2_ n3_; clear hb hbox hg; have hcz12_0 : w11.cell? ⟨gb162, 0, none⟩ = some (.int .i64 0) := (blk_cell BK162.out 0).trans rfl; have hcz12_1 : w11.cell? ⟨gb162, 1, none⟩ = some (.bool false) := (blk_cell BK162.out 1).trans rfl; have hcz12_2 : w11.cell? ⟨gb162, 2, none⟩ = some (.string (⟨#[]⟩ : ByteArray)) := (blk_cell BK162.out 2).trans rfl; have hcz12_3 : w11.cell? ⟨gb162, 3, none⟩ = some (.slice none 0 0) := (blk_cell BK162.out 3).trans rfl; have hfz12_0 := blk_frozen BK162.out 0; have hfz12_1 := blk_frozen BK162.out 1; have hfz12_2 := blk_frozen BK162.out 2; have hfz12_3 := blk_frozen BK162.out 3))
          go_ret2
          exact ⟨by first | rfl | (simp [errW_none, errW_some] <;> rfl) | (simp [*, errW_none, errW_some] <;> rfl) | (simp only [xne_nil, xeq_nil]; first | rfl | (simp [errW_none, errW_some] <;> rfl)), by repeat (first | (with_reducible first | exact HB.out | apply below_alloc | apply pw_below_drewN | apply below_drew1 | refine below_set ?_ GE162.out) | exact HB.out)⟩
        · rw [if_neg c10] at H
          have c10b0 : (((rd_T39 l0 a1).f0) == 1) = false := beq_eq_false_iff_ne.mpr c10
          have c10b1 : (((rd_T39 l0 a1).f0) != 1) = true := bne_iff_ne.mpr c10
          by_cases c13 : ((rd_T39 l0 a1).f0) = 2
          · rw [if_pos c13] at H
            have c13b0 : (((rd_T39 l0 a1).f0) == 2) = true := beq_iff_eq.mpr c13
            have c13b1 : (((rd_T39 l0 a1).f0) != 2) = false := bne_eq_false_iff_eq.mpr c13
            clear c13
            simp only [Option.some.injEq, Prod.mk.injEq] at H
            obtain ⟨rfl, rfl⟩ := H
            have p161 : 0 ≤ (a1 : Int) := of_decide_eq_true (by first | (with_reducible assumption) | assumption)
            have q161 : a1 < (l0.length : Int) := of_decide_eq_true (by first | (with_reducible assumption) | assumption)
            obtain ⟨ad161, A161_3, c161_3, e161, hx161_0, hx161_1, hx161_2, hx161_3, hl161_3, hi161_3⟩ := at_T39 HR0.out a1 p161 q161
            cases e161
            have HR161_3 := Aside0.mk hi161_3
            have HC161_3 := Aside0.mk hl161_3
            clear hi161_3 hl161_3
            replace p161 := eq_true p161
            replace q161 := eq_true q161
            go_enter Try.func25, Try.ntmps25
            go_wp2_with (first | ((with_reducible refine gate_dst (N := 6) rfl ?_); (try (refine gate_guard (by rfl) ?_; dsimp only)); refine box_event ?hg (N := 6) ?hd (cs := #[.int .i64 0, .bool false, .string (⟨#[]⟩ : ByteArray), .slice none 0 0]) (t := 39) ?hr ?_; (case hd => rfl); (case hg => rfl); (case hr => first | (go_simp; done) | (go_simp; rfl)); intro gb162 hg w14 hbox hb; have n0_ := Aside0.mk (below_step (carH HB.out) hb); have n1_ := Aside0.mk (hbox); have n2_ := Aside0.mk ((by rw [hg]; exact (below_size (carH HB.out)) : w.heap.size ≤ gb162)); have n3_ := Aside0.mk ((by rw [hg]; exact (below_size (carH HB.out)) : w.heap.size ≤ gb162)); clear HB; have HB := n0_; have BK162 := n1_; have GW162 := n2_; have GE162 := n3_; clear n0_ n1_ n2_ n3_; clear hb hbox hg; have hcz15_0 : w14.cell? ⟨gb162, 0, none⟩ = some (.int .i64 0) := (blk_cell BK162.out 0).trans rfl; have hcz15_1 : w14.cell? ⟨gb162, 1, none⟩ = some (.bool false) := (blk_cell BK162.out 1).trans rfl; have hcz15_2 : w14.cell? ⟨gb162, 2, none⟩ = some (.string (⟨#[]⟩ : ByteArray)) := (blk_cell BK162.out 2).trans rfl; have hcz15_3 : w14.cell? ⟨gb162, 3, none⟩ = some (.slice none 0 0) := (blk_cell BK162.out 3).trans rfl; have hfz15_0 := blk_frozen BK162.out 0; have hfz15_1 := blk_frozen BK162.out 1; have hfz15_2 := blk_frozen BK162.out 2; have hfz15_3 := blk_frozen BK162.out 3))
            go_ret2
            exact ⟨by first | rfl | (simp [errW_none, errW_some] <;> rfl) | (simp [*, errW_none, errW_some] <;> rfl) | (simp only [xne_nil, xeq_nil]; first | rfl | (simp [errW_none, errW_some] <;> rfl)), by repeat (first | (with_reducible first | exact HB.out | apply below_alloc | apply pw_below_drewN | apply below_drew1 | refine below_set ?_ GE162.out) | exact HB.out)⟩
          · rw [if_neg c13] at H
            have c13b0 : (((rd_T39 l0 a1).f0) == 2) = false := beq_eq_false_iff_ne.mpr c13
            have c13b1 : (((rd_T39 l0 a1).f0) != 2) = true := bne_iff_ne.mpr c13
            have H' := Aside0.mk H
            clear H
            have p161 : 0 ≤ (a1 : Int) := of_decide_eq_true (by first | (with_reducible assumption) | assumption)
            have q161 : a1 < (l0.length : Int) := of_decide_eq_true (by first | (with_reducible assumption) | assumption)
            obtain ⟨ad161, A161_3, c161_3, e161, hx161_0, hx161_1, hx161_2, hx161_3, hl161_3, hi161_3⟩ := at_T39 HR0.out a1 p161 q161
            cases e161
            have HR161_3 := Aside0.mk hi161_3
            have HC161_3 := Aside0.mk hl161_3
            clear hi161_3 hl161_3
            replace p161 := eq_true p161
            replace q161 := eq_true q161
            go_enter Try.func25, Try.ntmps25
            go_wp2_with (first | ((with_reducible refine gate_dst (N := 6) rfl ?_); (try (refine gate_guard (by rfl) ?_; dsimp only)); refine box_event ?hg (N := 6) ?hd (cs := #[.int .i64 0, .bool false, .string (⟨#[]⟩ : ByteArray), .slice none 0 0]) (t := 39) ?hr ?_; (case hd => rfl); (case hg => rfl); (case hr => first | (go_simp; done) | (go_simp; rfl)); intro gb162 hg w16 hbox hb; have n0_ := Aside0.mk (below_step (carH HB.out) hb); have n1_ := Aside0.mk (hbox); have n2_ := Aside0.mk ((by rw [hg]; exact (below_size (carH HB.out)) : w.heap.size ≤ gb162)); have n3_ := Aside0.mk ((by rw [hg]; exact (below_size (carH HB.out)) : w.heap.size ≤ gb162)); clear HB; have HB := n0_; have BK162 := n1_; have GW162 := n2_; have GE162 := n3_; clear n0_ n1_ n2_ n3_; clear hb hbox hg; have hcz17_0 : w16.cell? ⟨gb162, 0, none⟩ = some (.int .i64 0) := (blk_cell BK162.out 0).trans rfl; have hcz17_1 : w16.cell? ⟨gb162, 1, none⟩ = some (.bool false) := (blk_cell BK162.out 1).trans rfl; have hcz17_2 : w16.cell? ⟨gb162, 2, none⟩ = some (.string (⟨#[]⟩ : ByteArray)) := (blk_cell BK162.out 2).trans rfl; have hcz17_3 : w16.cell? ⟨gb162, 3, none⟩ = some (.slice none 0 0) := (blk_cell BK162.out 3).trans rfl; have hfz17_0 := blk_frozen BK162.out 0; have hfz17_1 := blk_frozen BK162.out 1; have hfz17_2 := blk_frozen BK162.out 2; have hfz17_3 := blk_frozen BK162.out 3))
            go_loopg [7, 8, 9] k (fun kq v7 v8 v9 w' => ∃ (x7_1 : ByteArray) (x8_1 : Int) (x9_1 : Int), v7 = .string x7_1 ∧ v8 = .int .i64 x8_1 ∧ v9 = .int .i64 x9_1 ∧ Aside0 (spec_l2text.l0 kq l0 x7_1 x8_1 x9_1 ((rd_T39 l0 a1).f0) ((rd_T39 l0 a1).f1) ((rd_T39 l0 a1).f2) ((rd_T39 l0 a1).f3) = some (r1, r2)) ∧ Aside0 (kq ≤ k) ∧ Aside0 (w'.heap[gb162]? = some (.cells #[.int .i64 ((rd_T39 l0 a1).f0), .bool ((rd_T39 l0 a1).f1), .string ((rd_T39 l0 a1).f2), (.slice A161_3 ((rd_T39 l0 a1).f3).length c161_3)] 39 (0, 0))) ∧ Aside0 (Below w.heap.size w w'))
            case atStart => exact ⟨((⟨#[]⟩ : ByteArray)), (0), (0), (by first | rfl | (simp; done) | (simp [*]; done) | (simp [Int.tdiv_eq_ediv_of_nonneg]; done) | (simp only [xne_nil, xeq_nil, Bool.not_not]; first | done | rfl)), (by first | rfl | (simp; done) | (simp [*]; done) | (simp [Int.tdiv_eq_ediv_of_nonneg]; done) | (simp only [xne_nil, xeq_nil, Bool.not_not]; first | done | rfl)), (by first | rfl | (simp; done) | (simp [*]; done) | (simp [Int.tdiv_eq_ediv_of_nonneg]; done) | (simp only [xne_nil, xeq_nil, Bool.not_not]; first | done | rfl)), H', ⟨Nat.le_refl _⟩, ⟨by (with_reducible repeat (first | refine blk_drewN ?_ _ | refine blk_drew ?_ | refine blk_alloc ?_ _)); refine blk_put (cs := #[.int .i64 ((rd_T39 l0 a1).f0), .bool ((rd_T39 l0 a1).f1), .string ((rd_T39 l0 a1).f2), .slice none 0 0]) ?_ 3 _ rfl; (with_reducible repeat (first | refine blk_drewN ?_ _ | refine blk_drew ?_ | refine blk_alloc ?_ _)); refine blk_put (cs := #[.int .i64 ((rd_T39 l0 a1).f0), .bool ((rd_T39 l0 a1).f1), .string (⟨#[]⟩ : ByteArray), .slice none 0 0]) ?_ 2 _ rfl; (with_reducible repeat (first | refine blk_drewN ?_ _ | refine blk_drew ?_ | refine blk_alloc ?_ _)); refine blk_put (cs := #[.int .i64 ((rd_T39 l0 a1).f0), .bool false, .string (⟨#[]⟩ : ByteArray), .slice none 0 0]) ?_ 1 _ rfl; (with_reducible repeat (first | refine blk_drewN ?_ _ | refine blk_drew ?_ | refine blk_alloc ?_ _)); refine blk_put (cs := #[.int .i64 0, .bool false, .string (⟨#[]⟩ : ByteArray), .slice none 0 0]) ?_ 0 _ rfl; (with_reducible repeat (first | refine blk_drewN ?_ _ | refine blk_drew ?_ | refine blk_alloc ?_ _)); exact BK162.out⟩, ⟨by repeat (first | (with_reducible first | exact HB.out | apply below_alloc | apply pw_below_drewN | apply below_drew1 | refine below_set ?_ GE162.out) | exact HB.out)⟩⟩
            case round =>
              clear H'
              try clear c1
              try clear p1
              try clear q1
              try clear hx1
              try clear c2
              try clear p2
              try clear c3
              try clear c3b0
              try clear c4
              try clear c4b0
              try clear c5
              try clear c5b0
              try clear c5b1
              try clear c10
              try clear c10b0
              try clear c10b1
              try clear c13
              try clear c13b0
              try clear c13b1
              try clear c16
              try clear p16
              try clear q16
              try clear hx16
              try clear hcz12_0
              try clear hcz12_1
              try clear hcz12_2
              try clear hcz12_3
              try clear hcz15_0
              try clear hcz15_1
              try clear hcz15_2
              try clear hcz15_3
              try clear hcz17_0
              try clear hcz17_1
              try clear hcz17_2
              try clear hcz17_3
              try clear hcz8_0
              try clear hcz8_1
              try clear hcz8_2
              try clear hcz8_3
              try clear hfz12_0
              try clear hfz12_1
              try clear hfz12_2
              try clear hfz12_3
              try clear hfz15_0
              try clear hfz15_1
              try clear hfz15_2
              try clear hfz15_3
              try clear hfz17_0
              try clear hfz17_1
              try clear hfz17_2
              try clear hfz17_3
              try clear hfz8_0
              try clear hfz8_1
              try clear hfz8_2
              try clear hfz8_3
              try clear hx161_0
              try clear hx161_1
              try clear hx161_2
              try clear hx161_3
              try clear p161
              try clear q161
              obtain ⟨x7_1, x8_1, x9_1, rfl, rfl, rfl, HA, HK1, BK162, HB⟩ := hrel
              cases gk with
              | zero => exact absurd HA.out (by simp [spec_l2text.l0])
              | succ k1 =>
                have H := HA.out
                clear HA
                simp only [spec_l2text.l0] at H
                by_cases c18 : x9_1 < (((rd_T39 l0 a1).f3).length : Int)
                · rw [if_pos c18] at H
                  have c18b0 : decide (x9_1 < (((rd_T39 l0 a1).f3).length : Int)) = true := decide_eq_true c18
                  clear c18
                  by_cases c19 : 0 ≤ x9_1
                  · rw [if_pos c19] at H
                    have c19b0 : decide (0 ≤ x9_1) = true := decide_eq_true c19
                    clear c19
                    replace H := Option.bind_eq_some_iff.mp H
                    obtain ⟨⟨t165, t166⟩, A200, H⟩ := H
                    replace H : (if t166 < 0 then (some ((⟨#[]⟩ : ByteArray), (-1))) else (if 0 ≤ (rd ((rd_T39 l0 a1).f3) x9_1) then (if (rd ((rd_T39 l0 a1).f3) x9_1) < (l0.length : Int) then (if ((rd_T39 l0 (rd ((rd_T39 l0 a1).f3) x9_1)).f0) = 4 then (spec_l2text.j1 k1 l0 x7_1 x8_1 x9_1 t165 t166 true ((rd_T39 l0 a1).f0) ((rd_T39 l0 a1).f1) ((rd_T39 l0 a1).f2) ((rd_T39 l0 a1).f3)) else (if ((rd_T39 l0 (rd ((rd_T39 l0 a1).f3) x9_1)).f0) = 3 then (spec_l2text.j1 k1 l0 x7_1 x8_1 x9_1 t165 t166 (((rd_T39 l0 a1).f0) != 4) ((rd_T39 l0 a1).f0) ((rd_T39 l0 a1).f1) ((rd_T39 l0 a1).f2) ((rd_T39 l0 a1).f3)) else (spec_l2text.j1 k1 l0 x7_1 x8_1 x9_1 t165 t166 false ((rd_T39 l0 a1).f0) ((rd_T39 l0 a1).f1) ((rd_T39 l0 a1).f2) ((rd_T39 l0 a1).f3)))) else (none)) else (none))) = some (r1, r2) := H
                    have A20 := Aside0.mk A200
                    clear A200
                    by_cases c21 : t166 < 0
                    · rw [if_pos c21] at H
                      have c21b0 : decide (t166 < 0) = true := decide_eq_true c21
                      clear c21
                      simp only [Option.some.injEq, Prod.mk.injEq] at H
                      obtain ⟨rfl, rfl⟩ := H
                      have hcz22_0 : wr.cell? ⟨gb162, 0, none⟩ = some (.int .i64 ((rd_T39 l0 a1).f0)) := (blk_cell BK162.out 0).trans rfl
                      have hcz22_1 : wr.cell? ⟨gb162, 1, none⟩ = some (.bool ((rd_T39 l0 a1).f1)) := (blk_cell BK162.out 1).trans rfl
                      have hcz22_2 : wr.cell? ⟨gb162, 2, none⟩ = some (.string ((rd_T39 l0 a1).f2)) := (blk_cell BK162.out 2).trans rfl
                      have hcz22_3 : wr.cell? ⟨gb162, 3, none⟩ = some (.slice A161_3 ((rd_T39 l0 a1).f3).length c161_3) := (blk_cell BK162.out 3).trans rfl
                      have hfz22_0 := blk_frozen BK162.out 0
                      have hfz22_1 := blk_frozen BK162.out 1
                      have hfz22_2 := blk_frozen BK162.out 2
                      have hfz22_3 := blk_frozen BK162.out 3
                      have p164 : 0 ≤ (x9_1 : Int) := of_decide_eq_true (by first | (with_reducible assumption) | assumption)
                      have q164 : x9_1 < (((rd_T39 l0 a1).f3).length : Int) := of_decide_eq_true (by first | (with_reducible assumption) | assumption)
                      obtain ⟨ad164, e164, hx164_0⟩ := Kd.at_int HR161_3.out x9_1 p164 q164
                      cases e164
                      replace hx164_0 := (HB.out.cell (World.block_lt_of_cell? w _ hx164_0)).trans hx164_0
                      replace p164 := eq_true p164
                      replace q164 := eq_true q164
                      go_wp2_with (first | ((with_reducible refine gate_callee (f := 25) rfl ?_); refine goesL_ (some 41) rfl rfl Try.func25 (by kernel_rfl) rfl #[.slice (some ad161) l0.length c0, .int .i64 (rd ((rd_T39 l0 a1).f3) x9_1)] rfl (by (try simp only [List.map_toArray, List.map_cons, List.map_nil]); first | done | rfl | (simp only [List.length_drop, List.length_take]; rfl)) ?_; (with_reducible refine (ih k1 (by have := HK1.out; omega) _ _ l0 (rd ((rd_T39 l0 a1).f3) x9_1) t165 t166 _ ?side1 ?side2 A20.out).mono ?_); (case side1 => repeat (first | exact (Kd.C_below HR0.out HB.out) | (with_reducible refine Kd.C_alloc ?_ _) | (with_reducible refine Kd.C_drewN ?_ _) | (with_reducible refine Kd.C_drew ?_))); (case side2 => exact HC0.out); rintro e w23 ⟨rfl, hb⟩; refine ⟨_, rfl, ?_⟩; have n0_ := Aside0.mk (blk_below (g := gb162) (o := .cells #[.int .i64 ((rd_T39 l0 a1).f0), .bool ((rd_T39 l0 a1).f1), .string ((rd_T39 l0 a1).f2), .slice (some ad164) ((rd_T39 l0 a1).f3).length c161_3] 39 (0, 0)) (carB BK162.out) hb); have n1_ := Aside0.mk (below_step (carH HB.out) hb); clear BK162; clear HB; have BK162 := n0_; have HB := n1_; clear n0_ n1_; (try clear hb); (try clear hb2); (try clear hk); (try clear hi)))
                      go_ret2
                      exact ⟨by first | rfl | (simp [errW_none, errW_some] <;> rfl) | (simp [*, errW_none, errW_some] <;> rfl) | (simp only [xne_nil, xeq_nil]; first | rfl | (simp [errW_none, errW_some] <;> rfl)), by repeat (first | (with_reducible first | exact HB.out | apply below_alloc | apply pw_below_drewN | apply below_drew1 | refine below_set ?_ GE162.out) | exact HB.out)⟩
                    · rw [if_neg c21] at H
                      have c21b0 : decide (t166 < 0) = false := decide_eq_false c21
                      clear c21
                      by_cases c24 : 0 ≤ (rd ((rd_T39 l0 a1).f3) x9_1)
                      · rw [if_pos c24] at H
                        have c24b0 : decide (0 ≤ (rd ((rd_T39 l0 a1).f3) x9_1)) = true := decide_eq_true c24
                        clear c24
                        by_cases c25 : (rd ((rd_T39 l0 a1).f3) x9_1) < (l0.length : Int)
                        · rw [if_pos c25] at H
                          have c25b0 : decide ((rd ((rd_T39 l0 a1).f3) x9_1) < (l0.length : Int)) = true := decide_eq_true c25
                          clear c25
                          have HC26 := Aside0.mk H
                          clear H
                          have hcz27_0 : wr.cell? ⟨gb162, 0, none⟩ = some (.int .i64 ((rd_T39 l0 a1).f0)) := (blk_cell BK162.out 0).trans rfl
                          have hcz27_1 : wr.cell? ⟨gb162, 1, none⟩ = some (.bool ((rd_T39 l0 a1).f1)) := (blk_cell BK162.out 1).trans rfl
                          have hcz27_2 : wr.cell? ⟨gb162, 2, none⟩ = some (.string ((rd_T39 l0 a1).f2)) := (blk_cell BK162.out 2).trans rfl
                          have hcz27_3 : wr.cell? ⟨gb162, 3, none⟩ = some (.slice A161_3 ((rd_T39 l0 a1).f3).length c161_3) := (blk_cell BK162.out 3).trans rfl
                          have hfz27_0 := blk_frozen BK162.out 0
                          have hfz27_1 := blk_frozen BK162.out 1
                          have hfz27_2 := blk_frozen BK162.out 2
                          have hfz27_3 := blk_frozen BK162.out 3
                          have p164 : 0 ≤ (x9_1 : Int) := of_decide_eq_true (by first | (with_reducible assumption) | assumption)
                          have q164 : x9_1 < (((rd_T39 l0 a1).f3).length : Int) := of_decide_eq_true (by first | (with_reducible assumption) | assumption)
                          obtain ⟨ad164, e164, hx164_0⟩ := Kd.at_int HR161_3.out x9_1 p164 q164
                          cases e164
                          replace hx164_0 := (HB.out.cell (World.block_lt_of_cell? w _ hx164_0)).trans hx164_0
                          replace p164 := eq_true p164
                          replace q164 := eq_true q164
                          go_upto_region 18 with (first | ((with_reducible refine gate_callee (f := 25) rfl ?_); refine goesL_ (some 41) rfl rfl Try.func25 (by kernel_rfl) rfl #[.slice (some ad161) l0.length c0, .int .i64 (rd ((rd_T39 l0 a1).f3) x9_1)] rfl (by (try simp only [List.map_toArray, List.map_cons, List.map_nil]); first | done | rfl | (simp only [List.length_drop, List.length_take]; rfl)) ?_; (with_reducible refine (ih k1 (by have := HK1.out; omega) _ _ l0 (rd ((rd_T39 l0 a1).f3) x9_1) t165 t166 _ ?side1 ?side2 A20.out).mono ?_); (case side1 => repeat (first | exact (Kd.C_below HR0.out HB.out) | (with_reducible refine Kd.C_alloc ?_ _) | (with_reducible refine Kd.C_drewN ?_ _) | (with_reducible refine Kd.C_drew ?_))); (case side2 => exact HC0.out); rintro e w28 ⟨rfl, hb⟩; refine ⟨_, rfl, ?_⟩; have n0_ := Aside0.mk (blk_below (g := gb162) (o := .cells #[.int .i64 ((rd_T39 l0 a1).f0), .bool ((rd_T39 l0 a1).f1), .string ((rd_T39 l0 a1).f2), .slice (some ad164) ((rd_T39 l0 a1).f3).length c161_3] 39 (0, 0)) (carB BK162.out) hb); have n1_ := Aside0.mk (below_step (carH HB.out) hb); clear BK162; clear HB; have BK162 := n0_; have HB := n1_; clear n0_ n1_; (try clear hb); (try clear hb2); (try clear hk); (try clear hi); have hcz29_0 : w28.cell? ⟨gb162, 0, none⟩ = some (.int .i64 ((rd_T39 l0 a1).f0)) := (blk_cell BK162.out 0).trans rfl; have hcz29_1 : w28.cell? ⟨gb162, 1, none⟩ = some (.bool ((rd_T39 l0 a1).f1)) := (blk_cell BK162.out 1).trans rfl; have hcz29_2 : w28.cell? ⟨gb162, 2, none⟩ = some (.string ((rd_T39 l0 a1).f2)) := (blk_cell BK162.out 2).trans rfl; have hcz29_3 : w28.cell? ⟨gb162, 3, none⟩ = some (.slice (some ad164) ((rd_T39 l0 a1).f3).length c161_3) := (blk_cell BK162.out 3).trans rfl; have hfz29_0 := blk_frozen BK162.out 0; have hfz29_1 := blk_frozen BK162.out 1; have hfz29_2 := blk_frozen BK162.out 2; have hfz29_3 := blk_frozen BK162.out 3; have p167 : 0 ≤ (x9_1 : Int) := of_decide_eq_true (by first | (with_reducible assumption) | assumption); have q167 : x9_1 < (((rd_T39 l0 a1).f3).length : Int) := of_decide_eq_true (by first | (with_reducible assumption) | assumption); obtain ⟨ad167, e167, hx167_0⟩ := Kd.at_int HR161_3.out x9_1 p167 q167; obtain rfl : ad164 = ad167 := (by injection e167); replace hx167_0 := (HB.out.cell (World.block_lt_of_cell? w _ hx167_0)).trans hx167_0; replace p167 := eq_true p167; replace q167 := eq_true q167; have p168 : 0 ≤ ((rd ((rd_T39 l0 a1).f3) x9_1) : Int) := of_decide_eq_true (by first | (with_reducible assumption) | assumption); have q168 : (rd ((rd_T39 l0 a1).f3) x9_1) < (l0.length : Int) := of_decide_eq_true (by first | (with_reducible assumption) | assumption); obtain ⟨ad168, A168_3, c168_3, e168, hx168_0, hx168_1, hx168_2, hx168_3, hl168_3, hi168_3⟩ := at_T39 HR0.out (rd ((rd_T39 l0 a1).f3) x9_1) p168 q168; obtain rfl : ad161 = ad168 := (by injection e168); replace hx168_0 := (HB.out.cell (World.block_lt_of_cell? w _ hx168_0)).trans hx168_0; replace hx168_1 := (HB.out.cell (World.block_lt_of_cell? w _ hx168_1)).trans hx168_1; replace hx168_2 := (HB.out.cell (World.block_lt_of_cell? w _ hx168_2)).trans hx168_2; replace hx168_3 := (HB.out.cell (World.block_lt_of_cell? w _ hx168_3)).trans hx168_3; have HR168_3 := Aside0.mk hi168_3; have HC168_3 := Aside0.mk hl168_3; clear hi168_3 hl168_3; replace p168 := eq_true p168; replace q168 := eq_true q168))
                          (try simp only [Act.put, List.setIfInBounds_toArray, List.set_cons_zero, List.set_cons_succ])
                          go_cut [65] (fun v65 wc => ∃ (kq : Nat) (x65_25 : Bool), v65 = .bool x65_25 ∧ Aside0 (spec_l2text.j1 kq l0 x7_1 x8_1 x9_1 t165 t166 x65_25 ((rd_T39 l0 a1).f0) ((rd_T39 l0 a1).f1) ((rd_T39 l0 a1).f2) ((rd_T39 l0 a1).f3) = some (r1, r2)) ∧ Aside0 (kq ≤ k1) ∧ Aside0 (wc.heap[gb162]? = some (.cells #[.int .i64 ((rd_T39 l0 a1).f0), .bool ((rd_T39 l0 a1).f1), .string ((rd_T39 l0 a1).f2), (.slice (some ad164) ((rd_T39 l0 a1).f3).length c161_3)] 39 (0, 0))) ∧ Aside0 (Below w.heap.size w wc))
                          case first =>
                            have H := HC26.out
                            clear HC26
                            by_cases c30 : ((rd_T39 l0 (rd ((rd_T39 l0 a1).f3) x9_1)).f0) = 4
                            · rw [if_pos c30] at H
                              have c30b0 : (((rd_T39 l0 (rd ((rd_T39 l0 a1).f3) x9_1)).f0) == 4) = true := beq_iff_eq.mpr c30
                              have c30b1 : (((rd_T39 l0 (rd ((rd_T39 l0 a1).f3) x9_1)).f0) != 4) = false := bne_eq_false_iff_eq.mpr c30
                              clear c30
                              (first | rw [c30b0] | (simp only [i64_w, i32_w]; rw [c30b0]) | skip)
                              have H' := Aside0.mk H
                              clear H
                              go_wp2
                              go_meet
                              case rel => exact ⟨_, (true), (by first | rfl | (simp; done) | (simp [*]; done) | (simp [Int.tdiv_eq_ediv_of_nonneg]; done) | (simp only [xne_nil, xeq_nil, Bool.not_not]; first | done | rfl)), H', ⟨by have := HK1.out; first | omega | exact Nat.le_refl _⟩, ⟨by (with_reducible repeat (first | refine blk_drewN ?_ _ | refine blk_drew ?_ | refine blk_alloc ?_ _)); exact BK162.out⟩, ⟨by repeat (first | (with_reducible first | exact HB.out | apply below_alloc | apply pw_below_drewN | apply below_drew1 | refine below_set ?_ GE162.out) | exact HB.out)⟩⟩
                            · rw [if_neg c30] at H
                              have c30b0 : (((rd_T39 l0 (rd ((rd_T39 l0 a1).f3) x9_1)).f0) == 4) = false := beq_eq_false_iff_ne.mpr c30
                              have c30b1 : (((rd_T39 l0 (rd ((rd_T39 l0 a1).f3) x9_1)).f0) != 4) = true := bne_iff_ne.mpr c30
                              (first | rw [c30b0] | (simp only [i64_w, i32_w]; rw [c30b0]) | skip)
                              by_cases c31 : ((rd_T39 l0 (rd ((rd_T39 l0 a1).f3) x9_1)).f0) = 3
                              · rw [if_pos c31] at H
                                have c31b0 : (((rd_T39 l0 (rd ((rd_T39 l0 a1).f3) x9_1)).f0) == 3) = true := beq_iff_eq.mpr c31
                                have c31b1 : (((rd_T39 l0 (rd ((rd_T39 l0 a1).f3) x9_1)).f0) != 3) = false := bne_eq_false_iff_eq.mpr c31
                                clear c31
                                have H' := Aside0.mk H
                                clear H
                                have hcz32_0 : w28.cell? ⟨gb162, 0, none⟩ = some (.int .i64 ((rd_T39 l0 a1).f0)) := (blk_cell BK162.out 0).trans rfl
                                have hcz32_1 : w28.cell? ⟨gb162, 1, none⟩ = some (.bool ((rd_T39 l0 a1).f1)) := (blk_cell BK162.out 1).trans rfl
                                have hcz32_2 : w28.cell? ⟨gb162, 2, none⟩ = some (.string ((rd_T39 l0 a1).f2)) := (blk_cell BK162.out 2).trans rfl
                                have hcz32_3 : w28.cell? ⟨gb162, 3, none⟩ = some (.slice (some ad164) ((rd_T39 l0 a1).f3).length c161_3) := (blk_cell BK162.out 3).trans rfl
                                have hfz32_0 := blk_frozen BK162.out 0
                                have hfz32_1 := blk_frozen BK162.out 1
                                have hfz32_2 := blk_frozen BK162.out 2
                                have hfz32_3 := blk_frozen BK162.out 3
                                go_wp2
                                go_meet
                                case rel => exact ⟨_, ((((rd_T39 l0 a1).f0) != 4)), (by first | rfl | (simp; done) | (simp [*]; done) | (simp [Int.tdiv_eq_ediv_of_nonneg]; done) | (simp only [xne_nil, xeq_nil, Bool.not_not]; first | done | rfl)), H', ⟨by have := HK1.out; first | omega | exact Nat.le_refl _⟩, ⟨by (with_reducible repeat (first | refine blk_drewN ?_ _ | refine blk_drew ?_ | refine blk_alloc ?_ _)); exact BK162.out⟩, ⟨by repeat (first | (with_reducible first | exact HB.out | apply below_alloc | apply pw_below_drewN | apply below_drew1 | refine below_set ?_ GE162.out) | exact HB.out)⟩⟩
                              · rw [if_neg c31] at H
                                have c31b0 : (((rd_T39 l0 (rd ((rd_T39 l0 a1).f3) x9_1)).f0) == 3) = false := beq_eq_false_iff_ne.mpr c31
                                have c31b1 : (((rd_T39 l0 (rd ((rd_T39 l0 a1).f3) x9_1)).f0) != 3) = true := bne_iff_ne.mpr c31
                                have H' := Aside0.mk H
                                clear H
                                go_wp2
                                go_meet
                                case rel => exact ⟨_, (false), (by first | rfl | (simp; done) | (simp [*]; done) | (simp [Int.tdiv_eq_ediv_of_nonneg]; done) | (simp only [xne_nil, xeq_nil, Bool.not_not]; first | done | rfl)), H', ⟨by have := HK1.out; first | omega | exact Nat.le_refl _⟩, ⟨by (with_reducible repeat (first | refine blk_drewN ?_ _ | refine blk_drew ?_ | refine blk_alloc ?_ _)); exact BK162.out⟩, ⟨by repeat (first | (with_reducible first | exact HB.out | apply below_alloc | apply pw_below_drewN | apply below_drew1 | refine below_set ?_ GE162.out) | exact HB.out)⟩⟩
                          case rest =>
                            clear HC26
                            try clear c1
                            try clear p1
                            try clear q1
                            try clear hx1
                            try clear c2
                            try clear p2
                            try clear c3
                            try clear c3b0
                            try clear c4
                            try clear c4b0
                            try clear c5
                            try clear c5b0
                            try clear c5b1
                            try clear c10
                            try clear c10b0
                            try clear c10b1
                            try clear c13
                            try clear c13b0
                            try clear c13b1
                            try clear c16
                            try clear p16
                            try clear q16
                            try clear hx16
                            try clear c18
                            try clear c18b0
                            try clear c19
                            try clear c19b0
                            try clear c21
                            try clear c21b0
                            try clear c24
                            try clear c24b0
                            try clear c25
                            try clear c25b0
                            try clear c30
                            try clear c30b0
                            try clear c30b1
                            try clear c31
                            try clear c31b0
                            try clear c31b1
                            try clear hcz12_0
                            try clear hcz12_1
                            try clear hcz12_2
                            try clear hcz12_3
                            try clear hcz15_0
                            try clear hcz15_1
                            try clear hcz15_2
                            try clear hcz15_3
                            try clear hcz17_0
                            try clear hcz17_1
                            try clear hcz17_2
                            try clear hcz17_3
                            try clear hcz22_0
                            try clear hcz22_1
                            try clear hcz22_2
                            try clear hcz22_3
                            try clear hcz27_0
                            try clear hcz27_1
                            try clear hcz27_2
                            try clear hcz27_3
                            try clear hcz29_0
                            try clear hcz29_1
                            try clear hcz29_2
                            try clear hcz29_3
                            try clear hcz32_0
                            try clear hcz32_1
                            try clear hcz32_2
                            try clear hcz32_3
                            try clear hcz8_0
                            try clear hcz8_1
                            try clear hcz8_2
                            try clear hcz8_3
                            try clear hfz12_0
                            try clear hfz12_1
                            try clear hfz12_2
                            try clear hfz12_3
                            try clear hfz15_0
                            try clear hfz15_1
                            try clear hfz15_2
                            try clear hfz15_3
                            try clear hfz17_0
                            try clear hfz17_1
                            try clear hfz17_2
                            try clear hfz17_3
                            try clear hfz22_0
                            try clear hfz22_1
                            try clear hfz22_2
                            try clear hfz22_3
                            try clear hfz27_0
                            try clear hfz27_1
                            try clear hfz27_2
                            try clear hfz27_3
                            try clear hfz29_0
                            try clear hfz29_1
                            try clear hfz29_2
                            try clear hfz29_3
                            try clear hfz32_0
                            try clear hfz32_1
                            try clear hfz32_2
                            try clear hfz32_3
                            try clear hfz8_0
                            try clear hfz8_1
                            try clear hfz8_2
                            try clear hfz8_3
                            try clear hx161_0
                            try clear hx161_1
                            try clear hx161_2
                            try clear hx161_3
                            try clear hx164_0
                            try clear hx167_0
                            try clear hx168_0
                            try clear hx168_1
                            try clear hx168_2
                            try clear hx168_3
                            try clear p1
                            try clear p16
                            try clear p161
                            try clear p164
                            try clear p167
                            try clear p168
                            try clear p2
                            try clear q1
                            try clear q16
                            try clear q161
                            try clear q164
                            try clear q167
                            try clear q168
                            obtain ⟨kq, x65_25, rfl, HA, HJ25, BK162, HB⟩ := hcut
                            cases kq with
                            | zero => exact absurd HA.out (by simp [spec_l2text.j1])
                            | succ kj25 =>
                              have H := HA.out
                              clear HA
                              simp only [spec_l2text.j1] at H
                              have HC33 := Aside0.mk H
                              clear H
                              go_upto_if 65 with (fail)
                              go_cut [10, 11] (fun v10 v11 wc => ∃ (kq : Nat) (x10_32 : ByteArray) (x11_32 : Int), v10 = .string x10_32 ∧ v11 = .int .i64 x11_32 ∧ Aside0 (spec_l2text.j2 kq l0 x7_1 x8_1 x9_1 x10_32 x11_32 ((rd_T39 l0 a1).f0) ((rd_T39 l0 a1).f1) ((rd_T39 l0 a1).f2) ((rd_T39 l0 a1).f3) = some (r1, r2)) ∧ Aside0 (kq ≤ kj25) ∧ Aside0 (wc.heap[gb162]? = some (.cells #[.int .i64 ((rd_T39 l0 a1).f0), .bool ((rd_T39 l0 a1).f1), .string ((rd_T39 l0 a1).f2), (.slice (some ad164) ((rd_T39 l0 a1).f3).length c161_3)] 39 (0, 0))) ∧ Aside0 (Below w.heap.size w wc))
                              case first =>
                                have H := HC33.out
                                clear HC33
                                by_cases c34 : x65_25 = true
                                · subst c34
                                  have H1 : (if 1 + t165.size ≤ 9223372036854775807 then (if ((⟨#[40]⟩ : ByteArray) ++ t165).size + 1 ≤ 9223372036854775807 then (spec_l2text.j2 kj25 l0 x7_1 x8_1 x9_1 (((⟨#[40]⟩ : ByteArray) ++ t165) ++ (⟨#[41]⟩ : ByteArray)) (wrap64 (t166 + 1)) ((rd_T39 l0 a1).f0) ((rd_T39 l0 a1).f1) ((rd_T39 l0 a1).f2) ((rd_T39 l0 a1).f3)) else (none)) else (none)) = some (r1, r2) := by rw [if_pos rfl] at H; exact H
                                  clear H
                                  have H := H1
                                  clear H1
                                  by_cases c35 : 1 + t165.size ≤ 9223372036854775807
                                  · rw [if_pos c35] at H
                                    have c35b0 := eq_true c35
                                    have c35b1 : decide (1 + t165.size ≤ 9223372036854775807) = true := decide_eq_true c35
                                    try have c35b2 : (9223372036854775807 < 1 + t165.size) = False := eq_false (Nat.not_lt.2 c35)
                                    by_cases c36 : ((⟨#[40]⟩ : ByteArray) ++ t165).size + 1 ≤ 9223372036854775807
                                    · rw [if_pos c36] at H
                                      have c36b0 := eq_true c36
                                      have c36b1 : decide (((⟨#[40]⟩ : ByteArray) ++ t165).size + 1 ≤ 9223372036854775807) = true := decide_eq_true c36
                                      try have c36b2 : (9223372036854775807 < ((⟨#[40]⟩ : ByteArray) ++ t165).size + 1) = False := eq_false (Nat.not_lt.2 c36)
                                      try have c36b3 : (9223372036854775807 < 1 + t165.size + 1) = False := eq_false (Nat.not_lt.2 (by have this_ := c36; simp only [ByteArray.size_append] at this_; exact this_))
                                      have H' := Aside0.mk H
                                      clear H
                                      go_wp2
                                      go_meet
                                      case rel => exact ⟨_, (((⟨#[40]⟩ : ByteArray) ++ t165) ++ (⟨#[41]⟩ : ByteArray)), (wrap64 (t166 + 1)), (by first | rfl | (simp; done) | (simp [*]; done) | (simp [Int.tdiv_eq_ediv_of_nonneg]; done) | (simp only [xne_nil, xeq_nil, Bool.not_not]; first | done | rfl)), (by first | rfl | (simp; done) | (simp [*]; done) | (simp [Int.tdiv_eq_ediv_of_nonneg]; done) | (simp only [xne_nil, xeq_nil, Bool.not_not]; first | done | rfl)), H', ⟨by have := HK1.out; have := HJ25.out; first | omega | exact Nat.le_refl _⟩, ⟨by (with_reducible repeat (first | refine blk_drewN ?_ _ | refine blk_drew ?_ | refine blk_alloc ?_ _)); exact BK162.out⟩, ⟨by repeat (first | (with_reducible first | exact HB.out | apply below_alloc | apply pw_below_drewN | apply below_drew1 | refine below_set ?_ GE162.out) | exact HB.out)⟩⟩
                                    · rw [if_neg c36] at H
                                      exact absurd H (by simp)
                                  · rw [if_neg c35] at H
                                    exact absurd H (by simp)
                                · replace c34 := Bool.eq_false_iff.mpr c34
                                  subst c34
                                  have H1 : (spec_l2text.j2 kj25 l0 x7_1 x8_1 x9_1 t165 t166 ((rd_T39 l0 a1).f0) ((rd_T39 l0 a1).f1) ((rd_T39 l0 a1).f2) ((rd_T39 l0 a1).f3)) = some (r1, r2) := by rw [if_neg (show ¬ (false = true) by decide)] at H; exact H
                                  clear H
                                  have H := H1
                                  clear H1
                                  have H' := Aside0.mk H
                                  clear H
                                  go_wp2
                                  go_meet
                                  case rel => exact ⟨_, (t165), (t166), (by first | rfl | (simp; done) | (simp [*]; done) | (simp [Int.tdiv_eq_ediv_of_nonneg]; done) | (simp only [xne_nil, xeq_nil, Bool.not_not]; first | done | rfl)), (by first | rfl | (simp; done) | (simp [*]; done) | (simp [Int.tdiv_eq_ediv_of_nonneg]; done) | (simp only [xne_nil, xeq_nil, Bool.not_not]; first | done | rfl)), H', ⟨by have := HK1.out; have := HJ25.out; first | omega | exact Nat.le_refl _⟩, ⟨by (with_reducible repeat (first | refine blk_drewN ?_ _ | refine blk_drew ?_ | refine blk_alloc ?_ _)); exact BK162.out⟩, ⟨by repeat (first | (with_reducible first | exact HB.out | apply below_alloc | apply pw_below_drewN | apply below_drew1 | refine below_set ?_ GE162.out) | exact HB.out)⟩⟩
                              case rest =>
                                clear HC33
                                try clear c1
                                try clear p1
                                try clear q1
                                try clear hx1
                                try clear c2
                                try clear p2
                                try clear c3
                                try clear c3b0
                                try clear c4
                                try clear c4b0
                                try clear c5
                                try clear c5b0
                                try clear c5b1
                                try clear p6
                                try clear c10
                                try clear c10b0
                                try clear c10b1
                                try clear c13
                                try clear c13b0
                                try clear c13b1
                                try clear c16
                                try clear p16
                                try clear q16
                                try clear hx16
                                try clear c18
                                try clear c18b0
                                try clear c19
                                try clear c19b0
                                try clear c21
                                try clear c21b0
                                try clear c24
                                try clear c24b0
                                try clear c25
                                try clear c25b0
                                try clear c30
                                try clear c30b0
                                try clear c30b1
                                try clear c31
                                try clear c31b0
                                try clear c31b1
                                try clear c34
                                try clear c35
                                try clear c35b0
                                try clear c35b1
                                try clear c35b2
                                try clear c36
                                try clear c36b0
                                try clear c36b1
                                try clear c36b2
                                try clear hcz12_0
                                try clear hcz12_1
                                try clear hcz12_2
                                try clear hcz12_3
                                try clear hcz15_0
                                try clear hcz15_1
                                try clear hcz15_2
                                try clear hcz15_3
                                try clear hcz17_0
                                try clear hcz17_1
                                try clear hcz17_2
                                try clear hcz17_3
                                try clear hcz22_0
                                try clear hcz22_1
                                try clear hcz22_2
                                try clear hcz22_3
                                try clear hcz27_0
                                try clear hcz27_1
                                try clear hcz27_2
                                try clear hcz27_3
                                try clear hcz29_0
                                try clear hcz29_1
                                try clear hcz29_2
                                try clear hcz29_3
                                try clear hcz32_0
                                try clear hcz32_1
                                try clear hcz32_2
                                try clear hcz32_3
                                try clear hcz8_0
                                try clear hcz8_1
                                try clear hcz8_2
                                try clear hcz8_3
                                try clear hfz12_0
                                try clear hfz12_1
                                try clear hfz12_2
                                try clear hfz12_3
                                try clear hfz15_0
                                try clear hfz15_1
                                try clear hfz15_2
                                try clear hfz15_3
                                try clear hfz17_0
                                try clear hfz17_1
                                try clear hfz17_2
                                try clear hfz17_3
                                try clear hfz22_0
                                try clear hfz22_1
                                try clear hfz22_2
                                try clear hfz22_3
                                try clear hfz27_0
                                try clear hfz27_1
                                try clear hfz27_2
                                try clear hfz27_3
                                try clear hfz29_0
                                try clear hfz29_1
                                try clear hfz29_2
                                try clear hfz29_3
                                try clear hfz32_0
                                try clear hfz32_1
                                try clear hfz32_2
                                try clear hfz32_3
                                try clear hfz8_0
                                try clear hfz8_1
                                try clear hfz8_2
                                try clear hfz8_3
                                try clear hx161_0
                                try clear hx161_1
                                try clear hx161_2
                                try clear hx161_3
                                try clear hx164_0
                                try clear hx167_0
                                try clear hx168_0
                                try clear hx168_1
                                try clear hx168_2
                                try clear hx168_3
                                try clear p1
                                try clear p16
                                try clear p161
                                try clear p164
                                try clear p167
                                try clear p168
                                try clear p2
                                try clear q1
                                try clear q16
                                try clear q161
                                try clear q164
                                try clear q167
                                try clear q168
                                obtain ⟨kq, x10_32, x11_32, rfl, rfl, HA, HJ32, BK162, HB⟩ := hcut
                                cases kq with
                                | zero => exact absurd HA.out (by simp [spec_l2text.j2])
                                | succ kj32 =>
                                  have H := HA.out
                                  clear HA
                                  simp only [spec_l2text.j2] at H
                                  have HC37 := Aside0.mk H
                                  clear H
                                  go_upto_region 21 with (fail)
                                  go_cut [77] (fun v77 wc => ∃ (kq : Nat) (x77_36 : Bool), v77 = .bool x77_36 ∧ Aside0 (spec_l2text.j3 kq l0 x7_1 x8_1 x9_1 x10_32 x11_32 x77_36 ((rd_T39 l0 a1).f0) ((rd_T39 l0 a1).f1) ((rd_T39 l0 a1).f2) ((rd_T39 l0 a1).f3) = some (r1, r2)) ∧ Aside0 (kq ≤ kj32) ∧ Aside0 (wc.heap[gb162]? = some (.cells #[.int .i64 ((rd_T39 l0 a1).f0), .bool ((rd_T39 l0 a1).f1), .string ((rd_T39 l0 a1).f2), (.slice (some ad164) ((rd_T39 l0 a1).f3).length c161_3)] 39 (0, 0))) ∧ Aside0 (Below w.heap.size w wc))
                                  case first =>
                                    have H := HC37.out
                                    clear HC37
                                    by_cases c38 : x9_1 > 0
                                    · rw [if_pos c38] at H
                                      have c38b0 : decide (0 < x9_1) = true := decide_eq_true c38
                                      clear c38
                                      (first | rw [c38b0] | (simp only [i64_w, i32_w]; rw [c38b0]) | skip)
                                      have H' := Aside0.mk H
                                      clear H
                                      have hcz39_0 : wc.cell? ⟨gb162, 0, none⟩ = some (.int .i64 ((rd_T39 l0 a1).f0)) := (blk_cell BK162.out 0).trans rfl
                                      have hcz39_1 : wc.cell? ⟨gb162, 1, none⟩ = some (.bool ((rd_T39 l0 a1).f1)) := (blk_cell BK162.out 1).trans rfl
                                      have hcz39_2 : wc.cell? ⟨gb162, 2, none⟩ = some (.string ((rd_T39 l0 a1).f2)) := (blk_cell BK162.out 2).trans rfl
                                      have hcz39_3 : wc.cell? ⟨gb162, 3, none⟩ = some (.slice (some ad164) ((rd_T39 l0 a1).f3).length c161_3) := (blk_cell BK162.out 3).trans rfl
                                      have hfz39_0 := blk_frozen BK162.out 0
                                      have hfz39_1 := blk_frozen BK162.out 1
                                      have hfz39_2 := blk_frozen BK162.out 2
                                      have hfz39_3 := blk_frozen BK162.out 3
                                      go_wp2
                                      go_meet
                                      case rel => exact ⟨_, ((((rd_T39 l0 a1).f0) == 4)), (by first | rfl | (simp; done) | (simp [*]; done) | (simp [Int.tdiv_eq_ediv_of_nonneg]; done) | (simp only [xne_nil, xeq_nil, Bool.not_not]; first | done | rfl)), H', ⟨by have := HK1.out; have := HJ25.out; have := HJ32.out; first | omega | exact Nat.le_refl _⟩, ⟨by (with_reducible repeat (first | refine blk_drewN ?_ _ | refine blk_drew ?_ | refine blk_alloc ?_ _)); exact BK162.out⟩, ⟨by repeat (first | (with_reducible first | exact HB.out | apply below_alloc | apply pw_below_drewN | apply below_drew1 | refine below_set ?_ GE162.out) | exact HB.out)⟩⟩
                                    · rw [if_neg c38] at H
                                      have c38b0 : decide (0 < x9_1) = false := decide_eq_false c38
                                      clear c38
                                      (first | rw [c38b0] | (simp only [i64_w, i32_w]; rw [c38b0]) | skip)
                                      have H' := Aside0.mk H
                                      clear H
                                      go_wp2
                                      go_meet
                                      case rel => exact ⟨_, (false), (by first | rfl | (simp; done) | (simp [*]; done) | (simp [Int.tdiv_eq_ediv_of_nonneg]; done) | (simp only [xne_nil, xeq_nil, Bool.not_not]; first | done | rfl)), H', ⟨by have := HK1.out; have := HJ25.out; have := HJ32.out; first | omega | exact Nat.le_refl _⟩, ⟨by (with_reducible repeat (first | refine blk_drewN ?_ _ | refine blk_drew ?_ | refine blk_alloc ?_ _)); exact BK162.out⟩, ⟨by repeat (first | (with_reducible first | exact HB.out | apply below_alloc | apply pw_below_drewN | apply below_drew1 | refine below_set ?_ GE162.out) | exact HB.out)⟩⟩
                                  case rest =>
                                    clear HC37
                                    try clear c1
                                    try clear p1
                                    try clear q1
                                    try clear hx1
                                    try clear c2
                                    try clear p2
                                    try clear c3
                                    try clear c3b0
                                    try clear c4
                                    try clear c4b0
                                    try clear c5
                                    try clear c5b0
                                    try clear c5b1
                                    try clear p6
                                    try clear c10
                                    try clear c10b0
                                    try clear c10b1
                                    try clear c13
                                    try clear c13b0
                                    try clear c13b1
                                    try clear c16
                                    try clear p16
                                    try clear q16
                                    try clear hx16
                                    try clear c18
                                    try clear c18b0
                                    try clear c19
                                    try clear c19b0
                                    try clear c21
                                    try clear c21b0
                                    try clear c24
                                    try clear c24b0
                                    try clear c25
                                    try clear c25b0
                                    try clear c30
                                    try clear c30b0
                                    try clear c30b1
                                    try clear c31
                                    try clear c31b0
                                    try clear c31b1
                                    try clear c34
                                    try clear c35
                                    try clear c35b0
                                    try clear c35b1
                                    try clear c35b2
                                    try clear c36
                                    try clear c36b0
                                    try clear c36b1
                                    try clear c36b2
                                    try clear c38
                                    try clear c38b0
                                    try clear hcz12_0
                                    try clear hcz12_1
                                    try clear hcz12_2
                                    try clear hcz12_3
                                    try clear hcz15_0
                                    try clear hcz15_1
                                    try clear hcz15_2
                                    try clear hcz15_3
                                    try clear hcz17_0
                                    try clear hcz17_1
                                    try clear hcz17_2
                                    try clear hcz17_3
                                    try clear hcz22_0
                                    try clear hcz22_1
                                    try clear hcz22_2
                                    try clear hcz22_3
                                    try clear hcz27_0
                                    try clear hcz27_1
                                    try clear hcz27_2
                                    try clear hcz27_3
                                    try clear hcz29_0
                                    try clear hcz29_1
                                    try clear hcz29_2
                                    try clear hcz29_3
                                    try clear hcz32_0
                                    try clear hcz32_1
                                    try clear hcz32_2
                                    try clear hcz32_3
                                    try clear hcz39_0
                                    try clear hcz39_1
                                    try clear hcz39_2
                                    try clear hcz39_3
                                    try clear hcz8_0
                                    try clear hcz8_1
                                    try clear hcz8_2
                                    try clear hcz8_3
                                    try clear hfz12_0
                                    try clear hfz12_1
                                    try clear hfz12_2
                                    try clear hfz12_3
                                    try clear hfz15_0
                                    try clear hfz15_1
                                    try clear hfz15_2
                                    try clear hfz15_3
                                    try clear hfz17_0
                                    try clear hfz17_1
                                    try clear hfz17_2
                                    try clear hfz17_3
                                    try clear hfz22_0
                                    try clear hfz22_1
                                    try clear hfz22_2
                                    try clear hfz22_3
                                    try clear hfz27_0
                                    try clear hfz27_1
                                    try clear hfz27_2
                                    try clear hfz27_3
                                    try clear hfz29_0
                                    try clear hfz29_1
                                    try clear hfz29_2
                                    try clear hfz29_3
                                    try clear hfz32_0
                                    try clear hfz32_1
                                    try clear hfz32_2
                                    try clear hfz32_3
                                    try clear hfz39_0
                                    try clear hfz39_1
                                    try clear hfz39_2
                                    try clear hfz39_3
                                    try clear hfz8_0
                                    try clear hfz8_1
                                    try clear hfz8_2
                                    try clear hfz8_3
                                    try clear hx161_0
                                    try clear hx161_1
                                    try clear hx161_2
                                    try clear hx161_3
                                    try clear hx164_0
                                    try clear hx167_0
                                    try clear hx168_0
                                    try clear hx168_1
                                    try clear hx168_2
                                    try clear hx168_3
                                    try clear p1
                                    try clear p16
                                    try clear p161
                                    try clear p164
                                    try clear p167
                                    try clear p168
                                    try clear p2
                                    try clear p6
                                    try clear q1
                                    try clear q16
                                    try clear q161
                                    try clear q164
                                    try clear q167
                                    try clear q168
                                    obtain ⟨kq, x77_36, rfl, HA, HJ36, BK162, HB⟩ := hcut
                                    cases kq with
                                    | zero => exact absurd HA.out (by simp [spec_l2text.j3])
                                    | succ kj36 =>
                                      have H := HA.out
                                      clear HA
                                      simp only [spec_l2text.j3] at H
                                      by_cases c40 : x77_36 = true
                                      · subst c40
                                        have H1 : (if x7_1.size + 1 ≤ 9223372036854775807 then (if (x7_1 ++ (⟨#[124]⟩ : ByteArray)).size + x10_32.size ≤ 9223372036854775807 then (if x11_32 > x8_1 then (spec_l2text.l0 kj36 l0 ((x7_1 ++ (⟨#[124]⟩ : ByteArray)) ++ x10_32) x11_32 (wrap64 (x9_1 + 1)) ((rd_T39 l0 a1).f0) ((rd_T39 l0 a1).f1) ((rd_T39 l0 a1).f2) ((rd_T39 l0 a1).f3)) else (spec_l2text.l0 kj36 l0 ((x7_1 ++ (⟨#[124]⟩ : ByteArray)) ++ x10_32) x8_1 (wrap64 (x9_1 + 1)) ((rd_T39 l0 a1).f0) ((rd_T39 l0 a1).f1) ((rd_T39 l0 a1).f2) ((rd_T39 l0 a1).f3))) else (none)) else (none)) = some (r1, r2) := by rw [if_pos rfl] at H; exact H
                                        clear H
                                        have H := H1
                                        clear H1
                                        by_cases c41 : x7_1.size + 1 ≤ 9223372036854775807
                                        · rw [if_pos c41] at H
                                          have c41b0 := eq_true c41
                                          have c41b1 : decide (x7_1.size + 1 ≤ 9223372036854775807) = true := decide_eq_true c41
                                          try have c41b2 : (9223372036854775807 < x7_1.size + 1) = False := eq_false (Nat.not_lt.2 c41)
                                          by_cases c42 : (x7_1 ++ (⟨#[124]⟩ : ByteArray)).size + x10_32.size ≤ 9223372036854775807
                                          · rw [if_pos c42] at H
                                            have c42b0 := eq_true c42
                                            have c42b1 : decide ((x7_1 ++ (⟨#[124]⟩ : ByteArray)).size + x10_32.size ≤ 9223372036854775807) = true := decide_eq_true c42
                                            try have c42b2 : (9223372036854775807 < (x7_1 ++ (⟨#[124]⟩ : ByteArray)).size + x10_32.size) = False := eq_false (Nat.not_lt.2 c42)
                                            try have c42b3 : (9223372036854775807 < x7_1.size + 1 + x10_32.size) = False := eq_false (Nat.not_lt.2 (by have this_ := c42; simp only [ByteArray.size_append] at this_; exact this_))
                                            by_cases c43 : x11_32 > x8_1
                                            · rw [if_pos c43] at H
                                              have c43b0 : decide (x8_1 < x11_32) = true := decide_eq_true c43
                                              clear c43
                                              have H' := Aside0.mk H
                                              clear H
                                              go_wp2
                                              go_roundg kj36
                                              case measure => have := HK1.out; have := HJ25.out; have := HJ32.out; have := HJ36.out; omega
                                              case rel => exact ⟨((x7_1 ++ (⟨#[124]⟩ : ByteArray)) ++ x10_32), (x11_32), (wrap64 (x9_1 + 1)), (by first | rfl | (simp; done) | (simp [*]; done) | (simp [Int.tdiv_eq_ediv_of_nonneg]; done) | (simp only [xne_nil, xeq_nil, Bool.not_not]; first | done | rfl)), (by first | rfl | (simp; done) | (simp [*]; done) | (simp [Int.tdiv_eq_ediv_of_nonneg]; done) | (simp only [xne_nil, xeq_nil, Bool.not_not]; first | done | rfl)), (by first | rfl | (simp; done) | (simp [*]; done) | (simp [Int.tdiv_eq_ediv_of_nonneg]; done) | (simp only [xne_nil, xeq_nil, Bool.not_not]; first | done | rfl)), H', ⟨by have := HK1.out; have := HJ25.out; have := HJ32.out; have := HJ36.out; omega⟩, ⟨by (with_reducible repeat (first | refine blk_drewN ?_ _ | refine blk_drew ?_ | refine blk_alloc ?_ _)); exact BK162.out⟩, ⟨by repeat (first | (with_reducible first | exact HB.out | apply below_alloc | apply pw_below_drewN | apply below_drew1 | refine below_set ?_ GE162.out) | exact HB.out)⟩⟩
                                            · rw [if_neg c43] at H
                                              have c43b0 : decide (x8_1 < x11_32) = false := decide_eq_false c43
                                              clear c43
                                              have H' := Aside0.mk H
                                              clear H
                                              go_wp2
                                              go_roundg kj36
                                              case measure => have := HK1.out; have := HJ25.out; have := HJ32.out; have := HJ36.out; omega
                                              case rel => exact ⟨((x7_1 ++ (⟨#[124]⟩ : ByteArray)) ++ x10_32), (x8_1), (wrap64 (x9_1 + 1)), (by first | rfl | (simp; done) | (simp [*]; done) | (simp [Int.tdiv_eq_ediv_of_nonneg]; done) | (simp only [xne_nil, xeq_nil, Bool.not_not]; first | done | rfl)), (by first | rfl | (simp; done) | (simp [*]; done) | (simp [Int.tdiv_eq_ediv_of_nonneg]; done) | (simp only [xne_nil, xeq_nil, Bool.not_not]; first | done | rfl)), (by first | rfl | (simp; done) | (simp [*]; done) | (simp [Int.tdiv_eq_ediv_of_nonneg]; done) | (simp only [xne_nil, xeq_nil, Bool.not_not]; first | done | rfl)), H', ⟨by have := HK1.out; have := HJ25.out; have := HJ32.out; have := HJ36.out; omega⟩, ⟨by (with_reducible repeat (first | refine blk_drewN ?_ _ | refine blk_drew ?_ | refine blk_alloc ?_ _)); exact BK162.out⟩, ⟨by repeat (first | (with_reducible first | exact HB.out | apply below_alloc | apply pw_below_drewN | apply below_drew1 | refine below_set ?_ GE162.out) | exact HB.out)⟩⟩
                                          · rw [if_neg c42] at H
                                            exact absurd H (by simp)
                                        · rw [if_neg c41] at H
                                          exact absurd H (by simp)
                                      · replace c40 := Bool.eq_false_iff.mpr c40
                                        subst c40
                                        have H1 : (if x7_1.size + x10_32.size ≤ 9223372036854775807 then (if x11_32 > x8_1 then (spec_l2text.l0 kj36 l0 (x7_1 ++ x10_32) x11_32 (wrap64 (x9_1 + 1)) ((rd_T39 l0 a1).f0) ((rd_T39 l0 a1).f1) ((rd_T39 l0 a1).f2) ((rd_T39 l0 a1).f3)) else (spec_l2text.l0 kj36 l0 (x7_1 ++ x10_32) x8_1 (wrap64 (x9_1 + 1)) ((rd_T39 l0 a1).f0) ((rd_T39 l0 a1).f1) ((rd_T39 l0 a1).f2) ((rd_T39 l0 a1).f3))) else (none)) = some (r1, r2) := by rw [if_neg (show ¬ (false = true) by decide)] at H; exact H
                                        clear H
                                        have H := H1
                                        clear H1
                                        by_cases c44 : x7_1.size + x10_32.size ≤ 9223372036854775807
                                        · rw [if_pos c44] at H
                                          have c44b0 := eq_true c44
                                          have c44b1 : decide (x7_1.size + x10_32.size ≤ 9223372036854775807) = true := decide_eq_true c44
                                          try have c44b2 : (9223372036854775807 < x7_1.size + x10_32.size) = False := eq_false (Nat.not_lt.2 c44)
                                          by_cases c45 : x11_32 > x8_1
                                          · rw [if_pos c45] at H
                                            have c45b0 : decide (x8_1 < x11_32) = true := decide_eq_true c45
                                            clear c45
                                            have H' := Aside0.mk H
                                            clear H
                                            go_wp2
                                            go_roundg kj36
                                            case measure => have := HK1.out; have := HJ25.out; have := HJ32.out; have := HJ36.out; omega
                                            case rel => exact ⟨(x7_1 ++ x10_32), (x11_32), (wrap64 (x9_1 + 1)), (by first | rfl | (simp; done) | (simp [*]; done) | (simp [Int.tdiv_eq_ediv_of_nonneg]; done) | (simp only [xne_nil, xeq_nil, Bool.not_not]; first | done | rfl)), (by first | rfl | (simp; done) | (simp [*]; done) | (simp [Int.tdiv_eq_ediv_of_nonneg]; done) | (simp only [xne_nil, xeq_nil, Bool.not_not]; first | done | rfl)), (by first | rfl | (simp; done) | (simp [*]; done) | (simp [Int.tdiv_eq_ediv_of_nonneg]; done) | (simp only [xne_nil, xeq_nil, Bool.not_not]; first | done | rfl)), H', ⟨by have := HK1.out; have := HJ25.out; have := HJ32.out; have := HJ36.out; omega⟩, ⟨by (with_reducible repeat (first | refine blk_drewN ?_ _ | refine blk_drew ?_ | refine blk_alloc ?_ _)); exact BK162.out⟩, ⟨by repeat (first | (with_reducible first | exact HB.out | apply below_alloc | apply pw_below_drewN | apply below_drew1 | refine below_set ?_ GE162.out) | exact HB.out)⟩⟩
                                          · rw [if_neg c45] at H
                                            have c45b0 : decide (x8_1 < x11_32) = false := decide_eq_false c45
                                            clear c45
                                            have H' := Aside0.mk H
                                            clear H
                                            go_wp2
                                            go_roundg kj36
                                            case measure => have := HK1.out; have := HJ25.out; have := HJ32.out; have := HJ36.out; omega
                                            case rel => exact ⟨(x7_1 ++ x10_32), (x8_1), (wrap64 (x9_1 + 1)), (by first | rfl | (simp; done) | (simp [*]; done) | (simp [Int.tdiv_eq_ediv_of_nonneg]; done) | (simp only [xne_nil, xeq_nil, Bool.not_not]; first | done | rfl)), (by first | rfl | (simp; done) | (simp [*]; done) | (simp [Int.tdiv_eq_ediv_of_nonneg]; done) | (simp only [xne_nil, xeq_nil, Bool.not_not]; first | done | rfl)), (by first | rfl | (simp; done) | (simp [*]; done) | (simp [Int.tdiv_eq_ediv_of_nonneg]; done) | (simp only [xne_nil, xeq_nil, Bool.not_not]; first | done | rfl)), H', ⟨by have := HK1.out; have := HJ25.out; have := HJ32.out; have := HJ36.out; omega⟩, ⟨by (with_reducible repeat (first | refine blk_drewN ?_ _ | refine blk_drew ?_ | refine blk_alloc ?_ _)); exact BK162.out⟩, ⟨by repeat (first | (with_reducible first | exact HB.out | apply below_alloc | apply pw_below_drewN | apply below_drew1 | refine below_set ?_ GE162.out) | exact HB.out)⟩⟩
                                        · rw [if_neg c44] at H
                                          exact absurd H (by simp)
                        · rw [if_neg c25] at H
                          exact absurd H (by simp)
                      · rw [if_neg c24] at H
                        exact absurd H (by simp)
                  · rw [if_neg c19] at H
                    exact absurd H (by simp)
                · rw [if_neg c18] at H
                  have c18b0 : decide (x9_1 < (((rd_T39 l0 a1).f3).length : Int)) = false := decide_eq_false c18
                  clear c18
                  by_cases c46 : ((rd_T39 l0 a1).f0) = 5
                  · rw [if_pos c46] at H
                    have c46b0 : (((rd_T39 l0 a1).f0) == 5) = true := beq_iff_eq.mpr c46
                    have c46b1 : (((rd_T39 l0 a1).f0) != 5) = false := bne_eq_false_iff_eq.mpr c46
                    clear c46
                    by_cases c47 : x7_1.size + 1 ≤ 9223372036854775807
                    · rw [if_pos c47] at H
                      have c47b0 := eq_true c47
                      have c47b1 : decide (x7_1.size + 1 ≤ 9223372036854775807) = true := decide_eq_true c47
                      try have c47b2 : (9223372036854775807 < x7_1.size + 1) = False := eq_false (Nat.not_lt.2 c47)
                      by_cases c48 : x8_1 > 20
                      · rw [if_pos c48] at H
                        have c48b0 : decide (20 < x8_1) = true := decide_eq_true c48
                        clear c48
                        simp only [Option.some.injEq, Prod.mk.injEq] at H
                        obtain ⟨rfl, rfl⟩ := H
                        have hcz49_0 : wr.cell? ⟨gb162, 0, none⟩ = some (.int .i64 ((rd_T39 l0 a1).f0)) := (blk_cell BK162.out 0).trans rfl
                        have hcz49_1 : wr.cell? ⟨gb162, 1, none⟩ = some (.bool ((rd_T39 l0 a1).f1)) := (blk_cell BK162.out 1).trans rfl
                        have hcz49_2 : wr.cell? ⟨gb162, 2, none⟩ = some (.string ((rd_T39 l0 a1).f2)) := (blk_cell BK162.out 2).trans rfl
                        have hcz49_3 : wr.cell? ⟨gb162, 3, none⟩ = some (.slice A161_3 ((rd_T39 l0 a1).f3).length c161_3) := (blk_cell BK162.out 3).trans rfl
                        have hfz49_0 := blk_frozen BK162.out 0
                        have hfz49_1 := blk_frozen BK162.out 1
                        have hfz49_2 := blk_frozen BK162.out 2
                        have hfz49_3 := blk_frozen BK162.out 3
                        go_wp2
                        go_ret2
                        exact ⟨by first | rfl | (simp [errW_none, errW_some] <;> rfl) | (simp [*, errW_none, errW_some] <;> rfl) | (simp only [xne_nil, xeq_nil]; first | rfl | (simp [errW_none, errW_some] <;> rfl)), by repeat (first | (with_reducible first | exact HB.out | apply below_alloc | apply pw_below_drewN | apply below_drew1 | refine below_set ?_ GE162.out) | exact HB.out)⟩
                      · rw [if_neg c48] at H
                        have c48b0 : decide (20 < x8_1) = false := decide_eq_false c48
                        clear c48
                        by_cases c50 : ((x7_1 ++ (⟨#[42]⟩ : ByteArray)).size : Int) > 200
                        · rw [if_pos c50] at H
                          have c50b0 : decide (200 < ((x7_1 ++ (⟨#[42]⟩ : ByteArray)).size : Int)) = true := decide_eq_true c50
                          (try have c50b0z : decide (200 < (x7_1.size : Int) + 1) = true := by have e_ : ((x7_1 ++ (⟨#[42]⟩ : ByteArray)).size : Int) = (x7_1.size : Int) + 1 := (by simp only [ByteArray.size_append, Int.natCast_add] <;> rfl); rw [← e_]; exact c50b0)
                          have c50b1 : decide (200 < (x7_1 ++ (⟨#[42]⟩ : ByteArray)).size) = true := decide_eq_true (by omega)
                          clear c50
                          simp only [Option.some.injEq, Prod.mk.injEq] at H
                          obtain ⟨rfl, rfl⟩ := H
                          have hcz51_0 : wr.cell? ⟨gb162, 0, none⟩ = some (.int .i64 ((rd_T39 l0 a1).f0)) := (blk_cell BK162.out 0).trans rfl
                          have hcz51_1 : wr.cell? ⟨gb162, 1, none⟩ = some (.bool ((rd_T39 l0 a1).f1)) := (blk_cell BK162.out 1).trans rfl
                          have hcz51_2 : wr.cell? ⟨gb162, 2, none⟩ = some (.string ((rd_T39 l0 a1).f2)) := (blk_cell BK162.out 2).trans rfl
                          have hcz51_3 : wr.cell? ⟨gb162, 3, none⟩ = some (.slice A161_3 ((rd_T39 l0 a1).f3).length c161_3) := (blk_cell BK162.out 3).trans rfl
                          have hfz51_0 := blk_frozen BK162.out 0
                          have hfz51_1 := blk_frozen BK162.out 1
                          have hfz51_2 := blk_frozen BK162.out 2
                          have hfz51_3 := blk_frozen BK162.out 3
                          go_wp2
                          go_ret2
                          exact ⟨by first | rfl | (simp [errW_none, errW_some] <;> rfl) | (simp [*, errW_none, errW_some] <;> rfl) | (simp only [xne_nil, xeq_nil]; first | rfl | (simp [errW_none, errW_some] <;> rfl)), by repeat (first | (with_reducible first | exact HB.out | apply below_alloc | apply pw_below_drewN | apply below_drew1 | refine below_set ?_ GE162.out) | exact HB.out)⟩
                        · rw [if_neg c50] at H
                          have c50b0 : decide (200 < ((x7_1 ++ (⟨#[42]⟩ : ByteArray)).size : Int)) = false := decide_eq_false c50
                          (try have c50b0z : decide (200 < (x7_1.size : Int) + 1) = false := by have e_ : ((x7_1 ++ (⟨#[42]⟩ : ByteArray)).size : Int) = (x7_1.size : Int) + 1 := (by simp only [ByteArray.size_append, Int.natCast_add] <;> rfl); rw [← e_]; exact c50b0)
                          have c50b1 : decide (200 < (x7_1 ++ (⟨#[42]⟩ : ByteArray)).size) = false := decide_eq_false (by omega)
                          clear c50
                          simp only [Option.some.injEq, Prod.mk.injEq] at H
                          obtain ⟨rfl, rfl⟩ := H
                          have hcz52_0 : wr.cell? ⟨gb162, 0, none⟩ = some (.int .i64 ((rd_T39 l0 a1).f0)) := (blk_cell BK162.out 0).trans rfl
                          have hcz52_1 : wr.cell? ⟨gb162, 1, none⟩ = some (.bool ((rd_T39 l0 a1).f1)) := (blk_cell BK162.out 1).trans rfl
                          have hcz52_2 : wr.cell? ⟨gb162, 2, none⟩ = some (.string ((rd_T39 l0 a1).f2)) := (blk_cell BK162.out 2).trans rfl
                          have hcz52_3 : wr.cell? ⟨gb162, 3, none⟩ = some (.slice A161_3 ((rd_T39 l0 a1).f3).length c161_3) := (blk_cell BK162.out 3).trans rfl
                          have hfz52_0 := blk_frozen BK162.out 0
                          have hfz52_1 := blk_frozen BK162.out 1
                          have hfz52_2 := blk_frozen BK162.out 2
                          have hfz52_3 := blk_frozen BK162.out 3
                          go_wp2
                          go_ret2
                          exact ⟨by first | rfl | (simp [errW_none, errW_some] <;> rfl) | (simp [*, errW_none, errW_some] <;> rfl) | (simp only [xne_nil, xeq_nil]; first | rfl | (simp [errW_none, errW_some] <;> rfl)), by repeat (first | (with_reducible first | exact HB.out | apply below_alloc | apply pw_below_drewN | apply below_drew1 | refine below_set ?_ GE162.out) | exact HB.out)⟩
                    · rw [if_neg c47] at H
                      exact absurd H (by simp)
                  · rw [if_neg c46] at H
                    have c46b0 : (((rd_T39 l0 a1).f0) == 5) = false := beq_eq_false_iff_ne.mpr c46
                    have c46b1 : (((rd_T39 l0 a1).f0) != 5) = true := bne_iff_ne.mpr c46
                    by_cases c53 : ((rd_T39 l0 a1).f0) = 6
                    · rw [if_pos c53] at H
                      have c53b0 : (((rd_T39 l0 a1).f0) == 6) = true := beq_iff_eq.mpr c53
                      have c53b1 : (((rd_T39 l0 a1).f0) != 6) = false := bne_eq_false_iff_eq.mpr c53
                      clear c53
                      by_cases c54 : x7_1.size + 1 ≤ 9223372036854775807
                      · rw [if_pos c54] at H
                        have c54b0 := eq_true c54
                        have c54b1 : decide (x7_1.size + 1 ≤ 9223372036854775807) = true := decide_eq_true c54
                        try have c54b2 : (9223372036854775807 < x7_1.size + 1) = False := eq_false (Nat.not_lt.2 c54)
                        by_cases c55 : x8_1 > 20
                        · rw [if_pos c55] at H
                          have c55b0 : decide (20 < x8_1) = true := decide_eq_true c55
                          clear c55
                          simp only [Option.some.injEq, Prod.mk.injEq] at H
                          obtain ⟨rfl, rfl⟩ := H
                          have hcz56_0 : wr.cell? ⟨gb162, 0, none⟩ = some (.int .i64 ((rd_T39 l0 a1).f0)) := (blk_cell BK162.out 0).trans rfl
                          have hcz56_1 : wr.cell? ⟨gb162, 1, none⟩ = some (.bool ((rd_T39 l0 a1).f1)) := (blk_cell BK162.out 1).trans rfl
                          have hcz56_2 : wr.cell? ⟨gb162, 2, none⟩ = some (.string ((rd_T39 l0 a1).f2)) := (blk_cell BK162.out 2).trans rfl
                          have hcz56_3 : wr.cell? ⟨gb162, 3, none⟩ = some (.slice A161_3 ((rd_T39 l0 a1).f3).length c161_3) := (blk_cell BK162.out 3).trans rfl
                          have hfz56_0 := blk_frozen BK162.out 0
                          have hfz56_1 := blk_frozen BK162.out 1
                          have hfz56_2 := blk_frozen BK162.out 2
                          have hfz56_3 := blk_frozen BK162.out 3
                          go_wp2
                          go_ret2
                          exact ⟨by first | rfl | (simp [errW_none, errW_some] <;> rfl) | (simp [*, errW_none, errW_some] <;> rfl) | (simp only [xne_nil, xeq_nil]; first | rfl | (simp [errW_none, errW_some] <;> rfl)), by repeat (first | (with_reducible first | exact HB.out | apply below_alloc | apply pw_below_drewN | apply below_drew1 | refine below_set ?_ GE162.out) | exact HB.out)⟩
                        · rw [if_neg c55] at H
                          have c55b0 : decide (20 < x8_1) = false := decide_eq_false c55
                          clear c55
                          by_cases c57 : ((x7_1 ++ (⟨#[43]⟩ : ByteArray)).size : Int) > 200
                          · rw [if_pos c57] at H
                            have c57b0 : decide (200 < ((x7_1 ++ (⟨#[43]⟩ : ByteArray)).size : Int)) = true := decide_eq_true c57
                            (try have c57b0z : decide (200 < (x7_1.size : Int) + 1) = true := by have e_ : ((x7_1 ++ (⟨#[43]⟩ : ByteArray)).size : Int) = (x7_1.size : Int) + 1 := (by simp only [ByteArray.size_append, Int.natCast_add] <;> rfl); rw [← e_]; exact c57b0)
                            have c57b1 : decide (200 < (x7_1 ++ (⟨#[43]⟩ : ByteArray)).size) = true := decide_eq_true (by omega)
                            clear c57
                            simp only [Option.some.injEq, Prod.mk.injEq] at H
                            obtain ⟨rfl, rfl⟩ := H
                            have hcz58_0 : wr.cell? ⟨gb162, 0, none⟩ = some (.int .i64 ((rd_T39 l0 a1).f0)) := (blk_cell BK162.out 0).trans rfl
                            have hcz58_1 : wr.cell? ⟨gb162, 1, none⟩ = some (.bool ((rd_T39 l0 a1).f1)) := (blk_cell BK162.out 1).trans rfl
                            have hcz58_2 : wr.cell? ⟨gb162, 2, none⟩ = some (.string ((rd_T39 l0 a1).f2)) := (blk_cell BK162.out 2).trans rfl
                            have hcz58_3 : wr.cell? ⟨gb162, 3, none⟩ = some (.slice A161_3 ((rd_T39 l0 a1).f3).length c161_3) := (blk_cell BK162.out 3).trans rfl
                            have hfz58_0 := blk_frozen BK162.out 0
                            have hfz58_1 := blk_frozen BK162.out 1
                            have hfz58_2 := blk_frozen BK162.out 2
                            have hfz58_3 := blk_frozen BK162.out 3
                            go_wp2
                            go_ret2
                            exact ⟨by first | rfl | (simp [errW_none, errW_some] <;> rfl) | (simp [*, errW_none, errW_some] <;> rfl) | (simp only [xne_nil, xeq_nil]; first | rfl | (simp [errW_none, errW_some] <;> rfl)), by repeat (first | (with_reducible first | exact HB.out | apply below_alloc | apply pw_below_drewN | apply below_drew1 | refine below_set ?_ GE162.out) | exact HB.out)⟩
                          · rw [if_neg c57] at H
                            have c57b0 : decide (200 < ((x7_1 ++ (⟨#[43]⟩ : ByteArray)).size : Int)) = false := decide_eq_false c57
                            (try have c57b0z : decide (200 < (x7_1.size : Int) + 1) = false := by have e_ : ((x7_1 ++ (⟨#[43]⟩ : ByteArray)).size : Int) = (x7_1.size : Int) + 1 := (by simp only [ByteArray.size_append, Int.natCast_add] <;> rfl); rw [← e_]; exact c57b0)
                            have c57b1 : decide (200 < (x7_1 ++ (⟨#[43]⟩ : ByteArray)).size) = false := decide_eq_false (by omega)
                            clear c57
                            simp only [Option.some.injEq, Prod.mk.injEq] at H
                            obtain ⟨rfl, rfl⟩ := H
                            have hcz59_0 : wr.cell? ⟨gb162, 0, none⟩ = some (.int .i64 ((rd_T39 l0 a1).f0)) := (blk_cell BK162.out 0).trans rfl
                            have hcz59_1 : wr.cell? ⟨gb162, 1, none⟩ = some (.bool ((rd_T39 l0 a1).f1)) := (blk_cell BK162.out 1).trans rfl
                            have hcz59_2 : wr.cell? ⟨gb162, 2, none⟩ = some (.string ((rd_T39 l0 a1).f2)) := (blk_cell BK162.out 2).trans rfl
                            have hcz59_3 : wr.cell? ⟨gb162, 3, none⟩ = some (.slice A161_3 ((rd_T39 l0 a1).f3).length c161_3) := (blk_cell BK162.out 3).trans rfl
                            have hfz59_0 := blk_frozen BK162.out 0
                            have hfz59_1 := blk_frozen BK162.out 1
                            have hfz59_2 := blk_frozen BK162.out 2
                            have hfz59_3 := blk_frozen BK162.out 3
                            go_wp2
                            go_ret2
                            exact ⟨by first | rfl | (simp [errW_none, errW_some] <;> rfl) | (simp [*, errW_none, errW_some] <;> rfl) | (simp only [xne_nil, xeq_nil]; first | rfl | (simp [errW_none, errW_some] <;> rfl)), by repeat (first | (with_reducible first | exact HB.out | apply below_alloc | apply pw_below_drewN | apply below_drew1 | refine below_set ?_ GE162.out) | exact HB.out)⟩
                      · rw [if_neg c54] at H
                        exact absurd H (by simp)
                    · rw [if_neg c53] at H
                      have c53b0 : (((rd_T39 l0 a1).f0) == 6) = false := beq_eq_false_iff_ne.mpr c53
                      have c53b1 : (((rd_T39 l0 a1).f0) != 6) = true := bne_iff_ne.mpr c53
                      by_cases c60 : ((rd_T39 l0 a1).f0) = 7
                      · rw [if_pos c60] at H
                        have c60b0 : (((rd_T39 l0 a1).f0) == 7) = true := beq_iff_eq.mpr c60
                        have c60b1 : (((rd_T39 l0 a1).f0) != 7) = false := bne_eq_false_iff_eq.mpr c60
                        clear c60
                        by_cases c61 : x7_1.size + 1 ≤ 9223372036854775807
                        · rw [if_pos c61] at H
                          have c61b0 := eq_true c61
                          have c61b1 : decide (x7_1.size + 1 ≤ 9223372036854775807) = true := decide_eq_true c61
                          try have c61b2 : (9223372036854775807 < x7_1.size + 1) = False := eq_false (Nat.not_lt.2 c61)
                          by_cases c62 : x8_1 > 20
                          · rw [if_pos c62] at H
                            have c62b0 : decide (20 < x8_1) = true := decide_eq_true c62
                            clear c62
                            simp only [Option.some.injEq, Prod.mk.injEq] at H
                            obtain ⟨rfl, rfl⟩ := H
                            have hcz63_0 : wr.cell? ⟨gb162, 0, none⟩ = some (.int .i64 ((rd_T39 l0 a1).f0)) := (blk_cell BK162.out 0).trans rfl
                            have hcz63_1 : wr.cell? ⟨gb162, 1, none⟩ = some (.bool ((rd_T39 l0 a1).f1)) := (blk_cell BK162.out 1).trans rfl
                            have hcz63_2 : wr.cell? ⟨gb162, 2, none⟩ = some (.string ((rd_T39 l0 a1).f2)) := (blk_cell BK162.out 2).trans rfl
                            have hcz63_3 : wr.cell? ⟨gb162, 3, none⟩ = some (.slice A161_3 ((rd_T39 l0 a1).f3).length c161_3) := (blk_cell BK162.out 3).trans rfl
                            have hfz63_0 := blk_frozen BK162.out 0
                            have hfz63_1 := blk_frozen BK162.out 1
                            have hfz63_2 := blk_frozen BK162.out 2
                            have hfz63_3 := blk_frozen BK162.out 3
                            go_wp2
                            go_ret2
                            exact ⟨by first | rfl | (simp [errW_none, errW_some] <;> rfl) | (simp [*, errW_none, errW_some] <;> rfl) | (simp only [xne_nil, xeq_nil]; first | rfl | (simp [errW_none, errW_some] <;> rfl)), by repeat (first | (with_reducible first | exact HB.out | apply below_alloc | apply pw_below_drewN | apply below_drew1 | refine below_set ?_ GE162.out) | exact HB.out)⟩
                          · rw [if_neg c62] at H
                            have c62b0 : decide (20 < x8_1) = false := decide_eq_false c62
                            clear c62
                            by_cases c64 : ((x7_1 ++ (⟨#[63]⟩ : ByteArray)).size : Int) > 200
                            · rw [if_pos c64] at H
                              have c64b0 : decide (200 < ((x7_1 ++ (⟨#[63]⟩ : ByteArray)).size : Int)) = true := decide_eq_true c64
                              (try have c64b0z : decide (200 < (x7_1.size : Int) + 1) = true := by have e_ : ((x7_1 ++ (⟨#[63]⟩ : ByteArray)).size : Int) = (x7_1.size : Int) + 1 := (by simp only [ByteArray.size_append, Int.natCast_add] <;> rfl); rw [← e_]; exact c64b0)
                              have c64b1 : decide (200 < (x7_1 ++ (⟨#[63]⟩ : ByteArray)).size) = true := decide_eq_true (by omega)
                              clear c64
                              simp only [Option.some.injEq, Prod.mk.injEq] at H
                              obtain ⟨rfl, rfl⟩ := H
                              have hcz65_0 : wr.cell? ⟨gb162, 0, none⟩ = some (.int .i64 ((rd_T39 l0 a1).f0)) := (blk_cell BK162.out 0).trans rfl
                              have hcz65_1 : wr.cell? ⟨gb162, 1, none⟩ = some (.bool ((rd_T39 l0 a1).f1)) := (blk_cell BK162.out 1).trans rfl
                              have hcz65_2 : wr.cell? ⟨gb162, 2, none⟩ = some (.string ((rd_T39 l0 a1).f2)) := (blk_cell BK162.out 2).trans rfl
                              have hcz65_3 : wr.cell? ⟨gb162, 3, none⟩ = some (.slice A161_3 ((rd_T39 l0 a1).f3).length c161_3) := (blk_cell BK162.out 3).trans rfl
                              have hfz65_0 := blk_frozen BK162.out 0
                              have hfz65_1 := blk_frozen BK162.out 1
                              have hfz65_2 := blk_frozen BK162.out 2
                              have hfz65_3 := blk_frozen BK162.out 3
                              go_wp2
                              go_ret2
                              exact ⟨by first | rfl | (simp [errW_none, errW_some] <;> rfl) | (simp [*, errW_none, errW_some] <;> rfl) | (simp only [xne_nil, xeq_nil]; first | rfl | (simp [errW_none, errW_some] <;> rfl)), by repeat (first | (with_reducible first | exact HB.out | apply below_alloc | apply pw_below_drewN | apply below_drew1 | refine below_set ?_ GE162.out) | exact HB.out)⟩
                            · rw [if_neg c64] at H
                              have c64b0 : decide (200 < ((x7_1 ++ (⟨#[63]⟩ : ByteArray)).size : Int)) = false := decide_eq_false c64
                              (try have c64b0z : decide (200 < (x7_1.size : Int) + 1) = false := by have e_ : ((x7_1 ++ (⟨#[63]⟩ : ByteArray)).size : Int) = (x7_1.size : Int) + 1 := (by simp only [ByteArray.size_append, Int.natCast_add] <;> rfl); rw [← e_]; exact c64b0)
                              have c64b1 : decide (200 < (x7_1 ++ (⟨#[63]⟩ : ByteArray)).size) = false := decide_eq_false (by omega)
                              clear c64
                              simp only [Option.some.injEq, Prod.mk.injEq] at H
                              obtain ⟨rfl, rfl⟩ := H
                              have hcz66_0 : wr.cell? ⟨gb162, 0, none⟩ = some (.int .i64 ((rd_T39 l0 a1).f0)) := (blk_cell BK162.out 0).trans rfl
                              have hcz66_1 : wr.cell? ⟨gb162, 1, none⟩ = some (.bool ((rd_T39 l0 a1).f1)) := (blk_cell BK162.out 1).trans rfl
                              have hcz66_2 : wr.cell? ⟨gb162, 2, none⟩ = some (.string ((rd_T39 l0 a1).f2)) := (blk_cell BK162.out 2).trans rfl
                              have hcz66_3 : wr.cell? ⟨gb162, 3, none⟩ = some (.slice A161_3 ((rd_T39 l0 a1).f3).length c161_3) := (blk_cell BK162.out 3).trans rfl
                              have hfz66_0 := blk_frozen BK162.out 0
                              have hfz66_1 := blk_frozen BK162.out 1
                              have hfz66_2 := blk_frozen BK162.out 2
                              have hfz66_3 := blk_frozen BK162.out 3
                              go_wp2
                              go_ret2
                              exact ⟨by first | rfl | (simp [errW_none, errW_some] <;> rfl) | (simp [*, errW_none, errW_some] <;> rfl) | (simp only [xne_nil, xeq_nil]; first | rfl | (simp [errW_none, errW_some] <;> rfl)), by repeat (first | (with_reducible first | exact HB.out | apply below_alloc | apply pw_below_drewN | apply below_drew1 | refine below_set ?_ GE162.out) | exact HB.out)⟩
                        · rw [if_neg c61] at H
                          exact absurd H (by simp)
                      · rw [if_neg c60] at H
                        have c60b0 : (((rd_T39 l0 a1).f0) == 7) = false := beq_eq_false_iff_ne.mpr c60
                        have c60b1 : (((rd_T39 l0 a1).f0) != 7) = true := bne_iff_ne.mpr c60
                        by_cases c67 : x8_1 > 20
                        · rw [if_pos c67] at H
                          have c67b0 : decide (20 < x8_1) = true := decide_eq_true c67
                          clear c67
                          simp only [Option.some.injEq, Prod.mk.injEq] at H
                          obtain ⟨rfl, rfl⟩ := H
                          have hcz68_0 : wr.cell? ⟨gb162, 0, none⟩ = some (.int .i64 ((rd_T39 l0 a1).f0)) := (blk_cell BK162.out 0).trans rfl
                          have hcz68_1 : wr.cell? ⟨gb162, 1, none⟩ = some (.bool ((rd_T39 l0 a1).f1)) := (blk_cell BK162.out 1).trans rfl
                          have hcz68_2 : wr.cell? ⟨gb162, 2, none⟩ = some (.string ((rd_T39 l0 a1).f2)) := (blk_cell BK162.out 2).trans rfl
                          have hcz68_3 : wr.cell? ⟨gb162, 3, none⟩ = some (.slice A161_3 ((rd_T39 l0 a1).f3).length c161_3) := (blk_cell BK162.out 3).trans rfl
                          have hfz68_0 := blk_frozen BK162.out 0
                          have hfz68_1 := blk_frozen BK162.out 1
                          have hfz68_2 := blk_frozen BK162.out 2
                          have hfz68_3 := blk_frozen BK162.out 3
                          go_wp2
                          go_ret2
                          exact ⟨by first | rfl | (simp [errW_none, errW_some] <;> rfl) | (simp [*, errW_none, errW_some] <;> rfl) | (simp only [xne_nil, xeq_nil]; first | rfl | (simp [errW_none, errW_some] <;> rfl)), by repeat (first | (with_reducible first | exact HB.out | apply below_alloc | apply pw_below_drewN | apply below_drew1 | refine below_set ?_ GE162.out) | exact HB.out)⟩
                        · rw [if_neg c67] at H
                          have c67b0 : decide (20 < x8_1) = false := decide_eq_false c67
                          clear c67
                          by_cases c69 : (x7_1.size : Int) > 200
                          · rw [if_pos c69] at H
                            have c69b0 : decide (200 < (x7_1.size : Int)) = true := decide_eq_true c69
                            have c69b1 : decide (200 < x7_1.size) = true := decide_eq_true (by omega)
                            clear c69
                            simp only [Option.some.injEq, Prod.mk.injEq] at H
                            obtain ⟨rfl, rfl⟩ := H
                            have hcz70_0 : wr.cell? ⟨gb162, 0, none⟩ = some (.int .i64 ((rd_T39 l0 a1).f0)) := (blk_cell BK162.out 0).trans rfl
                            have hcz70_1 : wr.cell? ⟨gb162, 1, none⟩ = some (.bool ((rd_T39 l0 a1).f1)) := (blk_cell BK162.out 1).trans rfl
                            have hcz70_2 : wr.cell? ⟨gb162, 2, none⟩ = some (.string ((rd_T39 l0 a1).f2)) := (blk_cell BK162.out 2).trans rfl
                            have hcz70_3 : wr.cell? ⟨gb162, 3, none⟩ = some (.slice A161_3 ((rd_T39 l0 a1).f3).length c161_3) := (blk_cell BK162.out 3).trans rfl
                            have hfz70_0 := blk_frozen BK162.out 0
                            have hfz70_1 := blk_frozen BK162.out 1
                            have hfz70_2 := blk_frozen BK162.out 2
                            have hfz70_3 := blk_frozen BK162.out 3
                            go_wp2
                            go_ret2
                            exact ⟨by first | rfl | (simp [errW_none, errW_some] <;> rfl) | (simp [*, errW_none, errW_some] <;> rfl) | (simp only [xne_nil, xeq_nil]; first | rfl | (simp [errW_none, errW_some] <;> rfl)), by repeat (first | (with_reducible first | exact HB.out | apply below_alloc | apply pw_below_drewN | apply below_drew1 | refine below_set ?_ GE162.out) | exact HB.out)⟩
                          · rw [if_neg c69] at H
                            have c69b0 : decide (200 < (x7_1.size : Int)) = false := decide_eq_false c69
                            have c69b1 : decide (200 < x7_1.size) = false := decide_eq_false (by omega)
                            clear c69
                            simp only [Option.some.injEq, Prod.mk.injEq] at H
                            obtain ⟨rfl, rfl⟩ := H
                            have hcz71_0 : wr.cell? ⟨gb162, 0, none⟩ = some (.int .i64 ((rd_T39 l0 a1).f0)) := (blk_cell BK162.out 0).trans rfl
                            have hcz71_1 : wr.cell? ⟨gb162, 1, none⟩ = some (.bool ((rd_T39 l0 a1).f1)) := (blk_cell BK162.out 1).trans rfl
                            have hcz71_2 : wr.cell? ⟨gb162, 2, none⟩ = some (.string ((rd_T39 l0 a1).f2)) := (blk_cell BK162.out 2).trans rfl
                            have hcz71_3 : wr.cell? ⟨gb162, 3, none⟩ = some (.slice A161_3 ((rd_T39 l0 a1).f3).length c161_3) := (blk_cell BK162.out 3).trans rfl
                            have hfz71_0 := blk_frozen BK162.out 0
                            have hfz71_1 := blk_frozen BK162.out 1
                            have hfz71_2 := blk_frozen BK162.out 2
                            have hfz71_3 := blk_frozen BK162.out 3
                            go_wp2
                            go_ret2
                            exact ⟨by first | rfl | (simp [errW_none, errW_some] <;> rfl) | (simp [*, errW_none, errW_some] <;> rfl) | (simp only [xne_nil, xeq_nil]; first | rfl | (simp [errW_none, errW_some] <;> rfl)), by repeat (first | (with_reducible first | exact HB.out | apply below_alloc | apply pw_below_drewN | apply below_drew1 | refine below_set ?_ GE162.out) | exact HB.out)⟩
    · rw [if_neg c4] at H
      exact absurd H (by simp)
  · rw [if_neg c3] at H
    exact absurd H (by simp)

end Go.Proofs.Ytmddcohelcciaaa.PFnExactReText
