-- XPRINTED: written by a program of this session (wip/xprint), which turns the kit's print
import Derived.Test.YtmddcohelcciaaaPFnExactReTextx0
import Derived.Test.YtmddcohelcciaaaPFnExactReTextx11
namespace Go.Proofs.Ytmddcohelcciaaa.PFnExactReText
open Go.RowKit Go.Proofs.YtmddcohelcciaaaW.PrintWords Go.Proofs.YtmddcohelcciaaaW.PrintLast Go.Proofs.YtmddcohelcciaaaW.PrintMore
attribute [local go_sem] max2_int min2_int max_two min_two max_three min_three max_four min_four   -- for this text's walks alone
set_option linter.unusedVariables false
set_option linter.unusedSimpArgs false

/-! ### impl_reText: function 26 -/
mutual
def impl_reText.l0 : Nat → List (S39) → ByteArray → Int → List Int → Int → Int → Int → Bool → ByteArray → List Int → Option (ByteArray × Int × Bool)
  | 0, _, _, _, _, _, _, _, _, _, _ => none
  | k + 1, x0, x8, x9, x31, x32, x33, x205000, x205001, x205002, x205003 => if x33 < x32 then (if 0 ≤ x33 then (if x33 < (x31.length : Int) then ((impl_reText.f k x0 (rd x31 x33)).bind fun bt207 => (if 0 ≤ (rd x31 x33) then (if (rd x31 x33) < (x0.length : Int) then (if ((rd_T39 x0 (rd x31 x33)).f0) = 4 then (impl_reText.j1 k x0 x8 x9 x33 bt207.1 bt207.2.1 bt207.2.2 x31 x32 x33 true x205000 x205001 x205002 x205003) else (if ((rd_T39 x0 (rd x31 x33)).f0) = 3 then (impl_reText.j1 k x0 x8 x9 x33 bt207.1 bt207.2.1 bt207.2.2 x31 x32 x33 (x205000 != 4) x205000 x205001 x205002 x205003) else (impl_reText.j1 k x0 x8 x9 x33 bt207.1 bt207.2.1 bt207.2.2 x31 x32 x33 false x205000 x205001 x205002 x205003))) else (none)) else (none))) else (none)) else (none)) else (if x205000 ≥ 5 then (if 0 ≤ (wrap64 (x205000 - 5)) then (if (wrap64 (x205000 - 5)) ≤ (wrap64 ((wrap64 (x205000 - 5)) + 1)) then (if (wrap64 ((wrap64 (x205000 - 5)) + 1)) ≤ 3 then (if x8.size + ((⟨#[42, 43, 63]⟩ : ByteArray).extract ((wrap64 (x205000 - 5)) : Int).toNat ((wrap64 ((wrap64 (x205000 - 5)) + 1)) : Int).toNat).size ≤ 9223372036854775807 then (some (x8 ++ ((⟨#[42, 43, 63]⟩ : ByteArray).extract ((wrap64 (x205000 - 5)) : Int).toNat ((wrap64 ((wrap64 (x205000 - 5)) + 1)) : Int).toNat), x9, true)) else (none)) else (none)) else (none)) else (none)) else (some (x8, x9, true)))
def impl_reText.j1 : Nat → List (S39) → ByteArray → Int → Int → ByteArray → Int → Bool → List Int → Int → Int → Bool → Int → Bool → ByteArray → List Int → Option (ByteArray × Int × Bool)
  | 0, _, _, _, _, _, _, _, _, _, _, _, _, _, _, _ => none
  | k + 1, x0, x8, x9, x10, x12, x13, x14, x31, x32, x33, x60, x205000, x205001, x205002, x205003 => if x60 = true then (if 1 + x12.size ≤ 9223372036854775807 then (if ((⟨#[40]⟩ : ByteArray) ++ x12).size + 1 ≤ 9223372036854775807 then (impl_reText.j2 k x0 x8 x9 x10 (((⟨#[40]⟩ : ByteArray) ++ x12) ++ (⟨#[41]⟩ : ByteArray)) (wrap64 (x13 + 1)) x14 x31 x32 x33 x205000 x205001 x205002 x205003) else (none)) else (none)) else (impl_reText.j2 k x0 x8 x9 x10 x12 x13 x14 x31 x32 x33 x205000 x205001 x205002 x205003)
def impl_reText.j2 : Nat → List (S39) → ByteArray → Int → Int → ByteArray → Int → Bool → List Int → Int → Int → Int → Bool → ByteArray → List Int → Option (ByteArray × Int × Bool)
  | 0, _, _, _, _, _, _, _, _, _, _, _, _, _, _ => none
  | k + 1, x0, x8, x9, x10, x12, x13, x14, x31, x32, x33, x205000, x205001, x205002, x205003 => if x10 > 0 then (impl_reText.j3 k x0 x8 x9 x12 x13 x14 x31 x32 x33 (x205000 == 4) x205000 x205001 x205002 x205003) else (impl_reText.j3 k x0 x8 x9 x12 x13 x14 x31 x32 x33 false x205000 x205001 x205002 x205003)
def impl_reText.j3 : Nat → List (S39) → ByteArray → Int → ByteArray → Int → Bool → List Int → Int → Int → Bool → Int → Bool → ByteArray → List Int → Option (ByteArray × Int × Bool)
  | 0, _, _, _, _, _, _, _, _, _, _, _, _, _, _ => none
  | k + 1, x0, x8, x9, x12, x13, x14, x31, x32, x33, x72, x205000, x205001, x205002, x205003 => if x72 = true then (if x8.size + 1 ≤ 9223372036854775807 then (if (x8 ++ (⟨#[124]⟩ : ByteArray)).size + x12.size ≤ 9223372036854775807 then (if x14 = true then (if (((x8 ++ (⟨#[124]⟩ : ByteArray)) ++ x12).size : Int) > 200 then (some ((⟨#[]⟩ : ByteArray), 0, false)) else (impl_reText.l0 k x0 ((x8 ++ (⟨#[124]⟩ : ByteArray)) ++ x12) (mx x9 x13) x31 x32 (wrap64 (x33 + 1)) x205000 x205001 x205002 x205003)) else (some ((⟨#[]⟩ : ByteArray), 0, false))) else (none)) else (none)) else (if x8.size + x12.size ≤ 9223372036854775807 then (if x14 = true then (if ((x8 ++ x12).size : Int) > 200 then (some ((⟨#[]⟩ : ByteArray), 0, false)) else (impl_reText.l0 k x0 (x8 ++ x12) (mx x9 x13) x31 x32 (wrap64 (x33 + 1)) x205000 x205001 x205002 x205003)) else (some ((⟨#[]⟩ : ByteArray), 0, false))) else (none))
def impl_reText.f : Nat → List (S39) → Int → Option (ByteArray × Int × Bool)
  | 0, _, _ => none
  | k + 1, l0, a1 => if 0 ≤ a1 then (if a1 < (l0.length : Int) then (if ((rd_T39 l0 a1).f0) = 0 then ((impl_setText.f k ((rd_T39 l0 a1).f0) ((rd_T39 l0 a1).f1) ((rd_T39 l0 a1).f2) ((rd_T39 l0 a1).f3)).bind fun t205 => (some (t205, 0, true))) else (if ((rd_T39 l0 a1).f0) = 1 then (some ((⟨#[94]⟩ : ByteArray), 0, true)) else (if ((rd_T39 l0 a1).f0) = 2 then (some ((⟨#[36]⟩ : ByteArray), 0, true)) else (impl_reText.l0 k l0 (⟨#[]⟩ : ByteArray) 0 ((rd_T39 l0 a1).f3) (((rd_T39 l0 a1).f3).length : Int) 0 ((rd_T39 l0 a1).f0) ((rd_T39 l0 a1).f1) ((rd_T39 l0 a1).f2) ((rd_T39 l0 a1).f3))))) else (none)) else (none)
end
theorem impl_reText.mono_l : ∀ k, (∀ y0 y1, LeO (impl_reText.f k y0 y1) (impl_reText.f (k + 1) y0 y1)) ∧ (∀ y0 y1 y2 y3 y4 y5 y6 y7 y8 y9, LeO (impl_reText.l0 k y0 y1 y2 y3 y4 y5 y6 y7 y8 y9) (impl_reText.l0 (k + 1) y0 y1 y2 y3 y4 y5 y6 y7 y8 y9)) ∧ (∀ y0 y1 y2 y3 y4 y5 y6 y7 y8 y9 y10 y11 y12 y13 y14, LeO (impl_reText.j1 k y0 y1 y2 y3 y4 y5 y6 y7 y8 y9 y10 y11 y12 y13 y14) (impl_reText.j1 (k + 1) y0 y1 y2 y3 y4 y5 y6 y7 y8 y9 y10 y11 y12 y13 y14)) ∧ (∀ y0 y1 y2 y3 y4 y5 y6 y7 y8 y9 y10 y11 y12 y13, LeO (impl_reText.j2 k y0 y1 y2 y3 y4 y5 y6 y7 y8 y9 y10 y11 y12 y13) (impl_reText.j2 (k + 1) y0 y1 y2 y3 y4 y5 y6 y7 y8 y9 y10 y11 y12 y13)) ∧ (∀ y0 y1 y2 y3 y4 y5 y6 y7 y8 y9 y10 y11 y12 y13, LeO (impl_reText.j3 k y0 y1 y2 y3 y4 y5 y6 y7 y8 y9 y10 y11 y12 y13) (impl_reText.j3 (k + 1) y0 y1 y2 y3 y4 y5 y6 y7 y8 y9 y10 y11 y12 y13))
  | 0 => ⟨fun _ _ r h => by simp [impl_reText.f] at h, fun _ _ _ _ _ _ _ _ _ _ r h => by simp [impl_reText.l0] at h, fun _ _ _ _ _ _ _ _ _ _ _ _ _ _ _ r h => by simp [impl_reText.j1] at h, fun _ _ _ _ _ _ _ _ _ _ _ _ _ _ r h => by simp [impl_reText.j2] at h, fun _ _ _ _ _ _ _ _ _ _ _ _ _ _ r h => by simp [impl_reText.j3] at h⟩
  | k + 1 => by
    obtain ⟨ih0, ih1, ih2, ih3, ih4⟩ := impl_reText.mono_l k
    refine ⟨?_, ?_, ?_, ?_, ?_⟩
    · intro y0 y1
      unfold impl_reText.f
      repeat' first
      | (with_reducible exact ih0 _ _)
      | (with_reducible exact ih1 _ _ _ _ _ _ _ _ _ _)
      | (with_reducible exact ih2 _ _ _ _ _ _ _ _ _ _ _ _ _ _ _)
      | (with_reducible exact ih3 _ _ _ _ _ _ _ _ _ _ _ _ _ _)
      | (with_reducible exact ih4 _ _ _ _ _ _ _ _ _ _ _ _ _ _)
      | (with_reducible exact impl_setText.mono _ _ _ _ _)
      | (with_reducible exact LeO.refl _)
      | (with_reducible exact LeO.none _)
      | (with_reducible refine LeO.ite ?_ ?_)
      | (with_reducible refine LeO.bind ?_ (fun _ => ?_))
      | exact ih0 _ _
      | exact ih1 _ _ _ _ _ _ _ _ _ _
      | exact ih2 _ _ _ _ _ _ _ _ _ _ _ _ _ _ _
      | exact ih3 _ _ _ _ _ _ _ _ _ _ _ _ _ _
      | exact ih4 _ _ _ _ _ _ _ _ _ _ _ _ _ _
      | exact impl_setText.mono _ _ _ _ _
      | exact LeO.none _
      | refine LeO.ite ?_ ?_
      | refine LeO.bind ?_ (fun _ => ?_)
    · intro y0 y1 y2 y3 y4 y5 y6 y7 y8 y9
      unfold impl_reText.l0
      repeat' first
      | (with_reducible exact ih0 _ _)
      | (with_reducible exact ih1 _ _ _ _ _ _ _ _ _ _)
      | (with_reducible exact ih2 _ _ _ _ _ _ _ _ _ _ _ _ _ _ _)
      | (with_reducible exact ih3 _ _ _ _ _ _ _ _ _ _ _ _ _ _)
      | (with_reducible exact ih4 _ _ _ _ _ _ _ _ _ _ _ _ _ _)
      | (with_reducible exact impl_setText.mono _ _ _ _ _)
      | (with_reducible exact LeO.refl _)
      | (with_reducible exact LeO.none _)
      | (with_reducible refine LeO.ite ?_ ?_)
      | (with_reducible refine LeO.bind ?_ (fun _ => ?_))
      | exact ih0 _ _
      | exact ih1 _ _ _ _ _ _ _ _ _ _
      | exact ih2 _ _ _ _ _ _ _ _ _ _ _ _ _ _ _
      | exact ih3 _ _ _ _ _ _ _ _ _ _ _ _ _ _
      | exact ih4 _ _ _ _ _ _ _ _ _ _ _ _ _ _
      | exact impl_setText.mono _ _ _ _ _
      | exact LeO.none _
      | refine LeO.ite ?_ ?_
      | refine LeO.bind ?_ (fun _ => ?_)
    · intro y0 y1 y2 y3 y4 y5 y6 y7 y8 y9 y10 y11 y12 y13 y14
      unfold impl_reText.j1
      repeat' first
      | (with_reducible exact ih0 _ _)
      | (with_reducible exact ih1 _ _ _ _ _ _ _ _ _ _)
      | (with_reducible exact ih2 _ _ _ _ _ _ _ _ _ _ _ _ _ _ _)
      | (with_reducible exact ih3 _ _ _ _ _ _ _ _ _ _ _ _ _ _)
      | (with_reducible exact ih4 _ _ _ _ _ _ _ _ _ _ _ _ _ _)
      | (with_reducible exact impl_setText.mono _ _ _ _ _)
      | (with_reducible exact LeO.refl _)
      | (with_reducible exact LeO.none _)
      | (with_reducible refine LeO.ite ?_ ?_)
      | (with_reducible refine LeO.bind ?_ (fun _ => ?_))
      | exact ih0 _ _
      | exact ih1 _ _ _ _ _ _ _ _ _ _
      | exact ih2 _ _ _ _ _ _ _ _ _ _ _ _ _ _ _
      | exact ih3 _ _ _ _ _ _ _ _ _ _ _ _ _ _
      | exact ih4 _ _ _ _ _ _ _ _ _ _ _ _ _ _
      | exact impl_setText.mono _ _ _ _ _
      | exact LeO.none _
      | refine LeO.ite ?_ ?_
      | refine LeO.bind ?_ (fun _ => ?_)
    · intro y0 y1 y2 y3 y4 y5 y6 y7 y8 y9 y10 y11 y12 y13
      unfold impl_reText.j2
      repeat' first
      | (with_reducible exact ih0 _ _)
      | (with_reducible exact ih1 _ _ _ _ _ _ _ _ _ _)
      | (with_reducible exact ih2 _ _ _ _ _ _ _ _ _ _ _ _ _ _ _)
      | (with_reducible exact ih3 _ _ _ _ _ _ _ _ _ _ _ _ _ _)
      | (with_reducible exact ih4 _ _ _ _ _ _ _ _ _ _ _ _ _ _)
      | (with_reducible exact impl_setText.mono _ _ _ _ _)
      | (with_reducible exact LeO.refl _)
      | (with_reducible exact LeO.none _)
      | (with_reducible refine LeO.ite ?_ ?_)
      | (with_reducible refine LeO.bind ?_ (fun _ => ?_))
      | exact ih0 _ _
      | exact ih1 _ _ _ _ _ _ _ _ _ _
      | exact ih2 _ _ _ _ _ _ _ _ _ _ _ _ _ _ _
      | exact ih3 _ _ _ _ _ _ _ _ _ _ _ _ _ _
      | exact ih4 _ _ _ _ _ _ _ _ _ _ _ _ _ _
      | exact impl_setText.mono _ _ _ _ _
      | exact LeO.none _
      | refine LeO.ite ?_ ?_
      | refine LeO.bind ?_ (fun _ => ?_)
    · intro y0 y1 y2 y3 y4 y5 y6 y7 y8 y9 y10 y11 y12 y13
      unfold impl_reText.j3
      repeat' first
      | (with_reducible exact ih0 _ _)
      | (with_reducible exact ih1 _ _ _ _ _ _ _ _ _ _)
      | (with_reducible exact ih2 _ _ _ _ _ _ _ _ _ _ _ _ _ _ _)
      | (with_reducible exact ih3 _ _ _ _ _ _ _ _ _ _ _ _ _ _)
      | (with_reducible exact ih4 _ _ _ _ _ _ _ _ _ _ _ _ _ _)
      | (with_reducible exact impl_setText.mono _ _ _ _ _)
      | (with_reducible exact LeO.refl _)
      | (with_reducible exact LeO.none _)
      | (with_reducible refine LeO.ite ?_ ?_)
      | (with_reducible refine LeO.bind ?_ (fun _ => ?_))
      | exact ih0 _ _
      | exact ih1 _ _ _ _ _ _ _ _ _ _
      | exact ih2 _ _ _ _ _ _ _ _ _ _ _ _ _ _ _
      | exact ih3 _ _ _ _ _ _ _ _ _ _ _ _ _ _
      | exact ih4 _ _ _ _ _ _ _ _ _ _ _ _ _ _
      | exact impl_setText.mono _ _ _ _ _
      | exact LeO.none _
      | refine LeO.ite ?_ ?_
      | refine LeO.bind ?_ (fun _ => ?_)
theorem impl_reText.mono : ∀ a0 a1 k, LeO (impl_reText.f k a0 a1) (impl_reText.f (k + 1) a0 a1) := by
  intro a0 a1 k
  obtain ⟨ih0, ih1, ih2, ih3, ih4⟩ := impl_reText.mono_l k
  exact ih0 a0 a1
set_option maxHeartbeats 8000000 in
set_option maxRecDepth 100000 in
theorem impl_reText.calls (k : Nat) : ∀ (A0 : Option Addr) (c0 : Nat) (l0 : List (S39)) (a1 : Int) (r1 : ByteArray) (r2 : Int) (r3 : Bool) (w : World) (hr0 : Kd.C k39 w A0 l0.length l0) (hc0 : l0.length ≤ c0) (h : impl_reText.f k l0 a1 = some (r1, r2, r3)),
    Calls Try.prog 26 #[.slice A0 l0.length c0, .int .i64 a1] w fun e w' => e = .returned (.tuple #[.string r1, .int .i64 r2, .bool r3]) ∧ Below w.heap.size w w' := by
  induction k using Nat.strongRecOn with
  | _ k ih =>
  intro A0 c0 l0 a1 r1 r2 r3 w hr0 hc0 h
  cases k with
  | zero => exact absurd h (by simp [impl_reText.f])
  | succ k =>
  simp only [impl_reText.f] at h
  have hu39 := Try.underlying39
  have HR0 := Aside0.mk hr0
  have HC0 := Aside0.mk hc0
  clear hr0 hc0
  have HB := Aside0.mk (Below.refl w.heap.size w)
  have H : (if 0 ≤ a1 then (if a1 < (l0.length : Int) then (if ((rd_T39 l0 a1).f0) = 0 then ((impl_setText.f k ((rd_T39 l0 a1).f0) ((rd_T39 l0 a1).f1) ((rd_T39 l0 a1).f2) ((rd_T39 l0 a1).f3)).bind fun t205 => (some (t205, 0, true))) else (if ((rd_T39 l0 a1).f0) = 1 then (some ((⟨#[94]⟩ : ByteArray), 0, true)) else (if ((rd_T39 l0 a1).f0) = 2 then (some ((⟨#[36]⟩ : ByteArray), 0, true)) else (impl_reText.l0 k l0 (⟨#[]⟩ : ByteArray) 0 ((rd_T39 l0 a1).f3) (((rd_T39 l0 a1).f3).length : Int) 0 ((rd_T39 l0 a1).f0) ((rd_T39 l0 a1).f1) ((rd_T39 l0 a1).f2) ((rd_T39 l0 a1).f3))))) else (none)) else (none)) = some (r1, r2, r3) := h
  clear h
  by_cases c3 : 0 ≤ a1
  · rw [if_pos c3] at H
    have c3b0 : decide (0 ≤ a1) = true := decide_eq_true c3
    clear c3
    by_cases c4 : a1 < (l0.length : Int)
    · rw [if_pos c4] at H
      have c4b0 : decide (a1 < (l0.length : Int)) = true := decide_eq_true c4
      clear c4
      by_cases c5 : ((rd_T39 l0 a1).f0) = 0
      · rw [if_pos c5] at H
        have c5b0 : (((rd_T39 l0 a1).f0) == 0) = true := beq_iff_eq.mpr c5
        have c5b1 : (((rd_T39 l0 a1).f0) != 0) = false := bne_eq_false_iff_eq.mpr c5
        clear c5
        replace H := Option.bind_eq_some_iff.mp H
        obtain ⟨t205, A60, H⟩ := H
        replace H : (some (t205, 0, true)) = some (r1, r2, r3) := H
        have A6 := Aside0.mk A60
        clear A60
        simp only [Option.some.injEq, Prod.mk.injEq] at H
        obtain ⟨rfl, rfl, rfl⟩ := H
        have p203 : 0 ≤ (a1 : Int) := of_decide_eq_true (by first | (with_reducible assumption) | assumption)
        have q203 : a1 < (l0.length : Int) := of_decide_eq_true (by first | (with_reducible assumption) | assumption)
        obtain ⟨ad203, A203_3, c203_3, e203, hx203_0, hx203_1, hx203_2, hx203_3, hl203_3, hi203_3⟩ := at_T39 HR0.out a1 p203 q203
        cases e203
        have HR203_3 := Aside0.mk hi203_3
        have HC203_3 := Aside0.mk hl203_3
        clear hi203_3 hl203_3
        replace p203 := eq_true p203
        replace q203 := eq_true q203
        go_enter Try.func26, Try.ntmps26
        go_wp2_with (first | ((with_reducible refine gate_dst (N := 7) rfl ?_); (try (refine gate_guard (by rfl) ?_; dsimp only)); refine box_event ?hg (N := 7) ?hd (cs := #[.int .i64 0, .bool false, .string (⟨#[]⟩ : ByteArray), .slice none 0 0]) (t := 39) ?hr ?_; (case hd => rfl); (case hg => rfl); (case hr => first | (go_simp; done) | (go_simp; rfl)); intro gb204 hg w7 hbox hb; have n0_ := Aside0.mk (below_step (carH HB.out) hb); have n1_ := Aside0.mk (hbox); have n2_ := Aside0.mk ((by rw [hg]; exact (below_size (carH HB.out)) : w.heap.size ≤ gb204)); have n3_ := Aside0.mk ((by rw [hg]; exact (below_size (carH HB.out)) : w.heap.size ≤ gb204)); clear HB; have HB := n0_; have BK204 := n1_; have GW204 := n2_; have GE204 := n3_; clear n0_ n1_ n2_ n3_; clear hb hbox hg; have hcz8_0 : w7.cell? ⟨gb204, 0, none⟩ = some (.int .i64 0) := (blk_cell BK204.out 0).trans rfl; have hcz8_1 : w7.cell? ⟨gb204, 1, none⟩ = some (.bool false) := (blk_cell BK204.out 1).trans rfl; have hcz8_2 : w7.cell? ⟨gb204, 2, none⟩ = some (.string (⟨#[]⟩ : ByteArray)) := (blk_cell BK204.out 2).trans rfl; have hcz8_3 : w7.cell? ⟨gb204, 3, none⟩ = some (.slice none 0 0) := (blk_cell BK204.out 3).trans rfl; have hfz8_0 := blk_frozen BK204.out 0; have hfz8_1 := blk_frozen BK204.out 1; have hfz8_2 := blk_frozen BK204.out 2; have hfz8_3 := blk_frozen BK204.out 3) | ((with_reducible refine gate_callee (f := 38) rfl ?_); refine goesL_ (some 25) rfl rfl Try.func38 (by kernel_rfl) rfl #[.agg #[.int .i64 ((rd_T39 l0 a1).f0), .bool ((rd_T39 l0 a1).f1), .string ((rd_T39 l0 a1).f2), .slice A203_3 ((rd_T39 l0 a1).f3).length c203_3]] rfl (by (try simp only [List.map_toArray, List.map_cons, List.map_nil]); first | done | rfl | (simp only [List.length_drop, List.length_take]; rfl)) ?_; (with_reducible refine (impl_setText.calls k ((rd_T39 l0 a1).f0) ((rd_T39 l0 a1).f1) ((rd_T39 l0 a1).f2) _ _ ((rd_T39 l0 a1).f3) t205 _ ?side1 ?side2 A6.out).mono ?_); (case side1 => exact Kd.C_below HR203_3.out (carH HB.out)); (case side2 => exact HC203_3.out); rintro e w9 ⟨rfl, hb⟩; refine ⟨_, rfl, ?_⟩; have n0_ := Aside0.mk (blk_below (g := gb204) (o := .cells #[.int .i64 ((rd_T39 l0 a1).f0), .bool ((rd_T39 l0 a1).f1), .string ((rd_T39 l0 a1).f2), .slice A203_3 ((rd_T39 l0 a1).f3).length c203_3] 39 (0, 0)) (by (with_reducible repeat (first | refine blk_drewN ?_ _ | refine blk_drew ?_ | refine blk_alloc ?_ _)); refine blk_put (cs := #[.int .i64 ((rd_T39 l0 a1).f0), .bool ((rd_T39 l0 a1).f1), .string ((rd_T39 l0 a1).f2), .slice none 0 0]) ?_ 3 _ rfl; (with_reducible repeat (first | refine blk_drewN ?_ _ | refine blk_drew ?_ | refine blk_alloc ?_ _)); refine blk_put (cs := #[.int .i64 ((rd_T39 l0 a1).f0), .bool ((rd_T39 l0 a1).f1), .string (⟨#[]⟩ : ByteArray), .slice none 0 0]) ?_ 2 _ rfl; (with_reducible repeat (first | refine blk_drewN ?_ _ | refine blk_drew ?_ | refine blk_alloc ?_ _)); refine blk_put (cs := #[.int .i64 ((rd_T39 l0 a1).f0), .bool false, .string (⟨#[]⟩ : ByteArray), .slice none 0 0]) ?_ 1 _ rfl; (with_reducible repeat (first | refine blk_drewN ?_ _ | refine blk_drew ?_ | refine blk_alloc ?_ _)); refine blk_put (cs := #[.int .i64 0, .bool false, .string (⟨#[]⟩ : ByteArray), .slice none 0 0]) ?_ 0 _ rfl; (with_reducible repeat (first | refine blk_drewN ?_ _ | refine blk_drew ?_ | refine blk_alloc ?_ _)); exact BK204.out) hb); have n1_ := Aside0.mk (below_step (carH HB.out) hb); clear BK204; clear HB; have BK204 := n0_; have HB := n1_; clear n0_ n1_; (try clear hb); (try clear hb2); (try clear hk); (try clear hi)))
        go_ret3
        exact ⟨by first | rfl | (simp [errW_none, errW_some] <;> rfl) | (simp [*, errW_none, errW_some] <;> rfl) | (simp only [xne_nil, xeq_nil]; first | rfl | (simp [errW_none, errW_some] <;> rfl)), by repeat (first | (with_reducible first | exact HB.out | apply below_alloc | apply pw_below_drewN | apply below_drew1 | refine below_set ?_ GE204.out) | exact HB.out)⟩
      · rw [if_neg c5] at H
        have c5b0 : (((rd_T39 l0 a1).f0) == 0) = false := beq_eq_false_iff_ne.mpr c5
        have c5b1 : (((rd_T39 l0 a1).f0) != 0) = true := bne_iff_ne.mpr c5
        by_cases c10 : ((rd_T39 l0 a1).f0) = 1
        · rw [if_pos c10] at H
          have c10b0 : (((rd_T39 l0 a1).f0) == 1) = true := beq_iff_eq.mpr c10
          have c10b1 : (((rd_T39 l0 a1).f0) != 1) = false := bne_eq_false_iff_eq.mpr c10
          clear c10
          simp only [Option.some.injEq, Prod.mk.injEq] at H
          obtain ⟨rfl, rfl, rfl⟩ := H
          have p203 : 0 ≤ (a1 : Int) := of_decide_eq_true (by first | (with_reducible assumption) | assumption)
          have q203 : a1 < (l0.length : Int) := of_decide_eq_true (by first | (with_reducible assumption) | assumption)
          obtain ⟨ad203, A203_3, c203_3, e203, hx203_0, hx203_1, hx203_2, hx203_3, hl203_3, hi203_3⟩ := at_T39 HR0.out a1 p203 q203
          cases e203
          have HR203_3 := Aside0.mk hi203_3
          have HC203_3 := Aside0.mk hl203_3
          clear hi203_3 hl203_3
          replace p203 := eq_true p203
          replace q203 := eq_true q203
          go_enter Try.func26, Try.ntmps26
          go_wp2_with (first | ((with_reducible refine gate_dst (N := 7) rfl ?_); (try (refine gate_guard (by rfl) ?_; dsimp only)); refine box_event ?hg (N := 7) ?hd (cs := #[.int .i64 0, .bool false, .string (⟨#[]⟩ : ByteArray), .slice none 0 0]) (t := 39) ?hr ?_; (case hd => rfl); (case hg => rfl); (case hr => first | (go_simp; done) | (go_simp; rfl)); intro gb204 hg w11 hbox hb; have n0_ := Aside0.mk (below_step (carH HB.out) hb); have n1_ := Aside0.mk (hbox); have n2_ := Aside0.mk ((by rw [hg]; exact (below_size (carH HB.out)) : w.heap.size ≤ gb204)); have n3_ := Aside0.mk ((by rw [hg]; exact (below_size (carH HB.out)) : w.heap.size ≤ gb204)); clear HB; have HB := n0_; have BK204 := n1_; have GW204 := n2_; have GE204 := n3_; clear n0_ n1_ n2_ n3_; clear hb hbox hg; have hcz12_0 : w11.cell? ⟨gb204, 0, none⟩ = some (.int .i64 0) := (blk_cell BK204.out 0).trans rfl; have hcz12_1 : w11.cell? ⟨gb204, 1, none⟩ = some (.bool false) := (blk_cell BK204.out 1).trans rfl; have hcz12_2 : w11.cell? ⟨gb204, 2, none⟩ = some (.string (⟨#[]⟩ : ByteArray)) := (blk_cell BK204.out 2).trans rfl; have hcz12_3 : w11.cell? ⟨gb204, 3, none⟩ = some (.slice none 0 0) := (blk_cell BK204.out 3).trans rfl; have hfz12_0 := blk_frozen BK204.out 0; have hfz12_1 := blk_frozen BK204.out 1; have hfz12_2 := blk_frozen BK204.out 2; have hfz12_3 := blk_frozen BK204.out 3))
          go_ret3
          exact ⟨by first | rfl | (simp [errW_none, errW_some] <;> rfl) | (simp [*, errW_none, errW_some] <;> rfl) | (simp only [xne_nil, xeq_nil]; first | rfl | (simp [errW_none, errW_some] <;> rfl)), by repeat (first | (with_reducible first | exact HB.out | apply below_alloc | apply pw_below_drewN | apply below_drew1 | refine below_set ?_ GE204.out) | exact HB.out)⟩
        · rw [if_neg c10] at H
          have c10b0 : (((rd_T39 l0 a1).f0) == 1) = false := beq_eq_false_iff_ne.mpr c10
          have c10b1 : (((rd_T39 l0 a1).f0) != 1) = true := bne_iff_ne.mpr c10
          by_cases c13 : ((rd_T39 l0 a1).f0) = 2
          · rw [if_pos c13] at H
            have c13b0 : (((rd_T39 l0 a1).f0) == 2) = true := beq_iff_eq.mpr c13
            have c13b1 : (((rd_T39 l0 a1).f0) != 2) = false := bne_eq_false_iff_eq.mpr c13
            clear c13
            simp only [Option.some.injEq, Prod.mk.injEq] at H
            obtain ⟨rfl, rfl, rfl⟩ := H
            have p203 : 0 ≤ (a1 : Int) := of_decide_eq_true (by first | (with_reducible assumption) | assumption)
            have q203 : a1 < (l0.length : Int) := of_decide_eq_true (by first | (with_reducible assumption) | assumption)
            obtain ⟨ad203, A203_3, c203_3, e203, hx203_0, hx203_1, hx203_2, hx203_3, hl203_3, hi203_3⟩ := at_T39 HR0.out a1 p203 q203
            cases e203
            have HR203_3 := Aside0.mk hi203_3
            have HC203_3 := Aside0.mk hl203_3
            clear hi203_3 hl203_3
            replace p203 := eq_true p203
            replace q203 := eq_true q203
            go_enter Try.func26, Try.ntmps26
            go_wp2_with (first | ((with_reducible refine gate_dst (N := 7) rfl ?_); (try (refine gate_guard (by rfl) ?_; dsimp only)); refine box_event ?hg (N := 7) ?hd (cs := #[.int .i64 0, .bool false, .string (⟨#[]⟩ : ByteArray), .slice none 0 0]) (t := 39) ?hr ?_; (case hd => rfl); (case hg => rfl); (case hr => first | (go_simp; done) | (go_simp; rfl)); intro gb204 hg w14 hbox hb; have n0_ := Aside0.mk (below_step (carH HB.out) hb); have n1_ := Aside0.mk (hbox); have n2_ := Aside0.mk ((by rw [hg]; exact (below_size (carH HB.out)) : w.heap.size ≤ gb204)); have n3_ := Aside0.mk ((by rw [hg]; exact (below_size (carH HB.out)) : w.heap.size ≤ gb204)); clear HB; have HB := n0_; have BK204 := n1_; have GW204 := n2_; have GE204 := n3_; clear n0_ n1_ n2_ n3_; clear hb hbox hg; have hcz15_0 : w14.cell? ⟨gb204, 0, none⟩ = some (.int .i64 0) := (blk_cell BK204.out 0).trans rfl; have hcz15_1 : w14.cell? ⟨gb204, 1, none⟩ = some (.bool false) := (blk_cell BK204.out 1).trans rfl; have hcz15_2 : w14.cell? ⟨gb204, 2, none⟩ = some (.string (⟨#[]⟩ : ByteArray)) := (blk_cell BK204.out 2).trans rfl; have hcz15_3 : w14.cell? ⟨gb204, 3, none⟩ = some (.slice none 0 0) := (blk_cell BK204.out 3).trans rfl; have hfz15_0 := blk_frozen BK204.out 0; have hfz15_1 := blk_frozen BK204.out 1; have hfz15_2 := blk_frozen BK204.out 2; have hfz15_3 := blk_frozen BK204.out 3))
            go_ret3
            exact ⟨by first | rfl | (simp [errW_none, errW_some] <;> rfl) | (simp [*, errW_none, errW_some] <;> rfl) | (simp only [xne_nil, xeq_nil]; first | rfl | (simp [errW_none, errW_some] <;> rfl)), by repeat (first | (with_reducible first | exact HB.out | apply below_alloc | apply pw_below_drewN | apply below_drew1 | refine below_set ?_ GE204.out) | exact HB.out)⟩
          · rw [if_neg c13] at H
            have c13b0 : (((rd_T39 l0 a1).f0) == 2) = false := beq_eq_false_iff_ne.mpr c13
            have c13b1 : (((rd_T39 l0 a1).f0) != 2) = true := bne_iff_ne.mpr c13
            have H' := Aside0.mk H
            clear H
            have p203 : 0 ≤ (a1 : Int) := of_decide_eq_true (by first | (with_reducible assumption) | assumption)
            have q203 : a1 < (l0.length : Int) := of_decide_eq_true (by first | (with_reducible assumption) | assumption)
            obtain ⟨ad203, A203_3, c203_3, e203, hx203_0, hx203_1, hx203_2, hx203_3, hl203_3, hi203_3⟩ := at_T39 HR0.out a1 p203 q203
            cases e203
            have HR203_3 := Aside0.mk hi203_3
            have HC203_3 := Aside0.mk hl203_3
            clear hi203_3 hl203_3
            replace p203 := eq_true p203
            replace q203 := eq_true q203
            go_enter Try.func26, Try.ntmps26
            go_wp2_with (first | ((with_reducible refine gate_dst (N := 7) rfl ?_); (try (refine gate_guard (by rfl) ?_; dsimp only)); refine box_event ?hg (N := 7) ?hd (cs := #[.int .i64 0, .bool false, .string (⟨#[]⟩ : ByteArray), .slice none 0 0]) (t := 39) ?hr ?_; (case hd => rfl); (case hg => rfl); (case hr => first | (go_simp; done) | (go_simp; rfl)); intro gb204 hg w16 hbox hb; have n0_ := Aside0.mk (below_step (carH HB.out) hb); have n1_ := Aside0.mk (hbox); have n2_ := Aside0.mk ((by rw [hg]; exact (below_size (carH HB.out)) : w.heap.size ≤ gb204)); have n3_ := Aside0.mk ((by rw [hg]; exact (below_size (carH HB.out)) : w.heap.size ≤ gb204)); clear HB; have HB := n0_; have BK204 := n1_; have GW204 := n2_; have GE204 := n3_; clear n0_ n1_ n2_ n3_; clear hb hbox hg; have hcz17_0 : w16.cell? ⟨gb204, 0, none⟩ = some (.int .i64 0) := (blk_cell BK204.out 0).trans rfl; have hcz17_1 : w16.cell? ⟨gb204, 1, none⟩ = some (.bool false) := (blk_cell BK204.out 1).trans rfl; have hcz17_2 : w16.cell? ⟨gb204, 2, none⟩ = some (.string (⟨#[]⟩ : ByteArray)) := (blk_cell BK204.out 2).trans rfl; have hcz17_3 : w16.cell? ⟨gb204, 3, none⟩ = some (.slice none 0 0) := (blk_cell BK204.out 3).trans rfl; have hfz17_0 := blk_frozen BK204.out 0; have hfz17_1 := blk_frozen BK204.out 1; have hfz17_2 := blk_frozen BK204.out 2; have hfz17_3 := blk_frozen BK204.out 3))
            go_loopg [8, 9, 33] k (fun kq v8 v9 v33 w' => ∃ (x8_1 : ByteArray) (x9_1 : Int) (x33_1 : Int), v8 = .string x8_1 ∧ v9 = .int .i64 x9_1 ∧ v33 = .int .i64 x33_1 ∧ Aside0 (impl_reText.l0 kq l0 x8_1 x9_1 ((rd_T39 l0 a1).f3) (((rd_T39 l0 a1).f3).length : Int) x33_1 ((rd_T39 l0 a1).f0) ((rd_T39 l0 a1).f1) ((rd_T39 l0 a1).f2) ((rd_T39 l0 a1).f3) = some (r1, r2, r3)) ∧ Aside0 (kq ≤ k) ∧ Aside0 (w'.heap[gb204]? = some (.cells #[.int .i64 ((rd_T39 l0 a1).f0), .bool ((rd_T39 l0 a1).f1), .string ((rd_T39 l0 a1).f2), (.slice A203_3 ((rd_T39 l0 a1).f3).length c203_3)] 39 (0, 0))) ∧ Aside0 (Below w.heap.size w w'))
            case atStart => exact ⟨((⟨#[]⟩ : ByteArray)), (0), (0), (by first | rfl | (simp; done) | (simp [*]; done) | (simp [Int.tdiv_eq_ediv_of_nonneg]; done) | (simp only [xne_nil, xeq_nil, Bool.not_not]; first | done | rfl)), (by first | rfl | (simp; done) | (simp [*]; done) | (simp [Int.tdiv_eq_ediv_of_nonneg]; done) | (simp only [xne_nil, xeq_nil, Bool.not_not]; first | done | rfl)), (by first | rfl | (simp; done) | (simp [*]; done) | (simp [Int.tdiv_eq_ediv_of_nonneg]; done) | (simp only [xne_nil, xeq_nil, Bool.not_not]; first | done | rfl)), H', ⟨Nat.le_refl _⟩, ⟨by (with_reducible repeat (first | refine blk_drewN ?_ _ | refine blk_drew ?_ | refine blk_alloc ?_ _)); refine blk_put (cs := #[.int .i64 ((rd_T39 l0 a1).f0), .bool ((rd_T39 l0 a1).f1), .string ((rd_T39 l0 a1).f2), .slice none 0 0]) ?_ 3 _ rfl; (with_reducible repeat (first | refine blk_drewN ?_ _ | refine blk_drew ?_ | refine blk_alloc ?_ _)); refine blk_put (cs := #[.int .i64 ((rd_T39 l0 a1).f0), .bool ((rd_T39 l0 a1).f1), .string (⟨#[]⟩ : ByteArray), .slice none 0 0]) ?_ 2 _ rfl; (with_reducible repeat (first | refine blk_drewN ?_ _ | refine blk_drew ?_ | refine blk_alloc ?_ _)); refine blk_put (cs := #[.int .i64 ((rd_T39 l0 a1).f0), .bool false, .string (⟨#[]⟩ : ByteArray), .slice none 0 0]) ?_ 1 _ rfl; (with_reducible repeat (first | refine blk_drewN ?_ _ | refine blk_drew ?_ | refine blk_alloc ?_ _)); refine blk_put (cs := #[.int .i64 0, .bool false, .string (⟨#[]⟩ : ByteArray), .slice none 0 0]) ?_ 0 _ rfl; (with_reducible repeat (first | refine blk_drewN ?_ _ | refine blk_drew ?_ | refine blk_alloc ?_ _)); exact BK204.out⟩, ⟨by repeat (first | (with_reducible first | exact HB.out | apply below_alloc | apply pw_below_drewN | apply below_drew1 | refine below_set ?_ GE204.out) | exact HB.out)⟩⟩
            case round =>
              clear H'
              try clear c1
              try clear c2
              try clear p2
              try clear q2
              try clear hx2
              try clear c3
              try clear c3b0
              try clear c4
              try clear c4b0
              try clear c5
              try clear c5b0
              try clear c5b1
              try clear c10
              try clear c10b0
              try clear c10b1
              try clear c13
              try clear c13b0
              try clear c13b1
              try clear hcz12_0
              try clear hcz12_1
              try clear hcz12_2
              try clear hcz12_3
              try clear hcz15_0
              try clear hcz15_1
              try clear hcz15_2
              try clear hcz15_3
              try clear hcz17_0
              try clear hcz17_1
              try clear hcz17_2
              try clear hcz17_3
              try clear hcz8_0
              try clear hcz8_1
              try clear hcz8_2
              try clear hcz8_3
              try clear hfz12_0
              try clear hfz12_1
              try clear hfz12_2
              try clear hfz12_3
              try clear hfz15_0
              try clear hfz15_1
              try clear hfz15_2
              try clear hfz15_3
              try clear hfz17_0
              try clear hfz17_1
              try clear hfz17_2
              try clear hfz17_3
              try clear hfz8_0
              try clear hfz8_1
              try clear hfz8_2
              try clear hfz8_3
              try clear hx203_0
              try clear hx203_1
              try clear hx203_2
              try clear hx203_3
              try clear p203
              try clear q203
              obtain ⟨x8_1, x9_1, x33_1, rfl, rfl, rfl, HA, HK1, BK204, HB⟩ := hrel
              cases gk with
              | zero => exact absurd HA.out (by simp [impl_reText.l0])
              | succ k1 =>
                have H := HA.out
                clear HA
                simp only [impl_reText.l0] at H
                by_cases c18 : x33_1 < (((rd_T39 l0 a1).f3).length : Int)
                · rw [if_pos c18] at H
                  have c18b0 : decide (x33_1 < (((rd_T39 l0 a1).f3).length : Int)) = true := decide_eq_true c18
                  clear c18
                  by_cases c19 : 0 ≤ x33_1
                  · rw [if_pos c19] at H
                    have c19b0 : decide (0 ≤ x33_1) = true := decide_eq_true c19
                    clear c19
                    by_cases c20 : x33_1 < (((rd_T39 l0 a1).f3).length : Int)
                    · rw [if_pos c20] at H
                      have c20b0 : decide (x33_1 < (((rd_T39 l0 a1).f3).length : Int)) = true := decide_eq_true c20
                      clear c20
                      replace H := Option.bind_eq_some_iff.mp H
                      obtain ⟨⟨t207, t208, t209⟩, A210, H⟩ := H
                      replace H : (if 0 ≤ (rd ((rd_T39 l0 a1).f3) x33_1) then (if (rd ((rd_T39 l0 a1).f3) x33_1) < (l0.length : Int) then (if ((rd_T39 l0 (rd ((rd_T39 l0 a1).f3) x33_1)).f0) = 4 then (impl_reText.j1 k1 l0 x8_1 x9_1 x33_1 t207 t208 t209 ((rd_T39 l0 a1).f3) (((rd_T39 l0 a1).f3).length : Int) x33_1 true ((rd_T39 l0 a1).f0) ((rd_T39 l0 a1).f1) ((rd_T39 l0 a1).f2) ((rd_T39 l0 a1).f3)) else (if ((rd_T39 l0 (rd ((rd_T39 l0 a1).f3) x33_1)).f0) = 3 then (impl_reText.j1 k1 l0 x8_1 x9_1 x33_1 t207 t208 t209 ((rd_T39 l0 a1).f3) (((rd_T39 l0 a1).f3).length : Int) x33_1 (((rd_T39 l0 a1).f0) != 4) ((rd_T39 l0 a1).f0) ((rd_T39 l0 a1).f1) ((rd_T39 l0 a1).f2) ((rd_T39 l0 a1).f3)) else (impl_reText.j1 k1 l0 x8_1 x9_1 x33_1 t207 t208 t209 ((rd_T39 l0 a1).f3) (((rd_T39 l0 a1).f3).length : Int) x33_1 false ((rd_T39 l0 a1).f0) ((rd_T39 l0 a1).f1) ((rd_T39 l0 a1).f2) ((rd_T39 l0 a1).f3)))) else (none)) else (none)) = some (r1, r2, r3) := H
                      have A21 := Aside0.mk A210
                      clear A210
                      by_cases c22 : 0 ≤ (rd ((rd_T39 l0 a1).f3) x33_1)
                      · rw [if_pos c22] at H
                        have c22b0 : decide (0 ≤ (rd ((rd_T39 l0 a1).f3) x33_1)) = true := decide_eq_true c22
                        clear c22
                        by_cases c23 : (rd ((rd_T39 l0 a1).f3) x33_1) < (l0.length : Int)
                        · rw [if_pos c23] at H
                          have c23b0 : decide ((rd ((rd_T39 l0 a1).f3) x33_1) < (l0.length : Int)) = true := decide_eq_true c23
                          clear c23
                          have HC24 := Aside0.mk H
                          clear H
                          have p206 : 0 ≤ (x33_1 : Int) := of_decide_eq_true (by first | (with_reducible assumption) | assumption)
                          have q206 : x33_1 < (((rd_T39 l0 a1).f3).length : Int) := of_decide_eq_true (by first | (with_reducible assumption) | assumption)
                          obtain ⟨ad206, e206, hx206_0⟩ := Kd.at_int HR203_3.out x33_1 p206 q206
                          cases e206
                          replace hx206_0 := (HB.out.cell (World.block_lt_of_cell? w _ hx206_0)).trans hx206_0
                          replace p206 := eq_true p206
                          replace q206 := eq_true q206
                          go_upto_region 14 with (first | ((with_reducible refine gate_callee (f := 26) rfl ?_); refine goesL_ (some 41) rfl rfl Try.func26 (by kernel_rfl) rfl #[.slice (some ad203) l0.length c0, .int .i64 (rd ((rd_T39 l0 a1).f3) x33_1)] rfl (by (try simp only [List.map_toArray, List.map_cons, List.map_nil]); first | done | rfl | (simp only [List.length_drop, List.length_take]; rfl)) ?_; (with_reducible refine (ih k1 (by have := HK1.out; omega) _ _ l0 (rd ((rd_T39 l0 a1).f3) x33_1) t207 t208 t209 _ ?side1 ?side2 A21.out).mono ?_); (case side1 => repeat (first | exact (Kd.C_below HR0.out HB.out) | (with_reducible refine Kd.C_alloc ?_ _) | (with_reducible refine Kd.C_drewN ?_ _) | (with_reducible refine Kd.C_drew ?_))); (case side2 => exact HC0.out); rintro e w25 ⟨rfl, hb⟩; refine ⟨_, rfl, ?_⟩; have n0_ := Aside0.mk (blk_below (g := gb204) (o := .cells #[.int .i64 ((rd_T39 l0 a1).f0), .bool ((rd_T39 l0 a1).f1), .string ((rd_T39 l0 a1).f2), .slice (some ad206) ((rd_T39 l0 a1).f3).length c203_3] 39 (0, 0)) (carB BK204.out) hb); have n1_ := Aside0.mk (below_step (carH HB.out) hb); clear BK204; clear HB; have BK204 := n0_; have HB := n1_; clear n0_ n1_; (try clear hb); (try clear hb2); (try clear hk); (try clear hi); have p210 : 0 ≤ ((rd ((rd_T39 l0 a1).f3) x33_1) : Int) := of_decide_eq_true (by first | (with_reducible assumption) | assumption); have q210 : (rd ((rd_T39 l0 a1).f3) x33_1) < (l0.length : Int) := of_decide_eq_true (by first | (with_reducible assumption) | assumption); obtain ⟨ad210, A210_3, c210_3, e210, hx210_0, hx210_1, hx210_2, hx210_3, hl210_3, hi210_3⟩ := at_T39 HR0.out (rd ((rd_T39 l0 a1).f3) x33_1) p210 q210; obtain rfl : ad203 = ad210 := (by injection e210); replace hx210_0 := (HB.out.cell (World.block_lt_of_cell? w _ hx210_0)).trans hx210_0; replace hx210_1 := (HB.out.cell (World.block_lt_of_cell? w _ hx210_1)).trans hx210_1; replace hx210_2 := (HB.out.cell (World.block_lt_of_cell? w _ hx210_2)).trans hx210_2; replace hx210_3 := (HB.out.cell (World.block_lt_of_cell? w _ hx210_3)).trans hx210_3; have HR210_3 := Aside0.mk hi210_3; have HC210_3 := Aside0.mk hl210_3; clear hi210_3 hl210_3; replace p210 := eq_true p210; replace q210 := eq_true q210))
                          (try simp only [Act.put, List.setIfInBounds_toArray, List.set_cons_zero, List.set_cons_succ])
                          go_cut [60] (fun v60 wc => ∃ (kq : Nat) (x60_23 : Bool), v60 = .bool x60_23 ∧ Aside0 (impl_reText.j1 kq l0 x8_1 x9_1 x33_1 t207 t208 t209 ((rd_T39 l0 a1).f3) (((rd_T39 l0 a1).f3).length : Int) x33_1 x60_23 ((rd_T39 l0 a1).f0) ((rd_T39 l0 a1).f1) ((rd_T39 l0 a1).f2) ((rd_T39 l0 a1).f3) = some (r1, r2, r3)) ∧ Aside0 (kq ≤ k1) ∧ Aside0 (wc.heap[gb204]? = some (.cells #[.int .i64 ((rd_T39 l0 a1).f0), .bool ((rd_T39 l0 a1).f1), .string ((rd_T39 l0 a1).f2), (.slice (some ad206) ((rd_T39 l0 a1).f3).length c203_3)] 39 (0, 0))) ∧ Aside0 (Below w.heap.size w wc))
                          case first =>
                            have H := HC24.out
                            clear HC24
                            by_cases c26 : ((rd_T39 l0 (rd ((rd_T39 l0 a1).f3) x33_1)).f0) = 4
                            · rw [if_pos c26] at H
                              have c26b0 : (((rd_T39 l0 (rd ((rd_T39 l0 a1).f3) x33_1)).f0) == 4) = true := beq_iff_eq.mpr c26
                              have c26b1 : (((rd_T39 l0 (rd ((rd_T39 l0 a1).f3) x33_1)).f0) != 4) = false := bne_eq_false_iff_eq.mpr c26
                              clear c26
                              (first | rw [c26b0] | (simp only [i64_w, i32_w]; rw [c26b0]) | skip)
                              have H' := Aside0.mk H
                              clear H
                              go_wp2
                              go_meet
                              case rel => exact ⟨_, (true), (by first | rfl | (simp; done) | (simp [*]; done) | (simp [Int.tdiv_eq_ediv_of_nonneg]; done) | (simp only [xne_nil, xeq_nil, Bool.not_not]; first | done | rfl)), H', ⟨by have := HK1.out; first | omega | exact Nat.le_refl _⟩, ⟨by (with_reducible repeat (first | refine blk_drewN ?_ _ | refine blk_drew ?_ | refine blk_alloc ?_ _)); exact BK204.out⟩, ⟨by repeat (first | (with_reducible first | exact HB.out | apply below_alloc | apply pw_below_drewN | apply below_drew1 | refine below_set ?_ GE204.out) | exact HB.out)⟩⟩
                            · rw [if_neg c26] at H
                              have c26b0 : (((rd_T39 l0 (rd ((rd_T39 l0 a1).f3) x33_1)).f0) == 4) = false := beq_eq_false_iff_ne.mpr c26
                              have c26b1 : (((rd_T39 l0 (rd ((rd_T39 l0 a1).f3) x33_1)).f0) != 4) = true := bne_iff_ne.mpr c26
                              (first | rw [c26b0] | (simp only [i64_w, i32_w]; rw [c26b0]) | skip)
                              by_cases c27 : ((rd_T39 l0 (rd ((rd_T39 l0 a1).f3) x33_1)).f0) = 3
                              · rw [if_pos c27] at H
                                have c27b0 : (((rd_T39 l0 (rd ((rd_T39 l0 a1).f3) x33_1)).f0) == 3) = true := beq_iff_eq.mpr c27
                                have c27b1 : (((rd_T39 l0 (rd ((rd_T39 l0 a1).f3) x33_1)).f0) != 3) = false := bne_eq_false_iff_eq.mpr c27
                                clear c27
                                have H' := Aside0.mk H
                                clear H
                                have hcz28_0 : w25.cell? ⟨gb204, 0, none⟩ = some (.int .i64 ((rd_T39 l0 a1).f0)) := (blk_cell BK204.out 0).trans rfl
                                have hcz28_1 : w25.cell? ⟨gb204, 1, none⟩ = some (.bool ((rd_T39 l0 a1).f1)) := (blk_cell BK204.out 1).trans rfl
                                have hcz28_2 : w25.cell? ⟨gb204, 2, none⟩ = some (.string ((rd_T39 l0 a1).f2)) := (blk_cell BK204.out 2).trans rfl
                                have hcz28_3 : w25.cell? ⟨gb204, 3, none⟩ = some (.slice (some ad206) ((rd_T39 l0 a1).f3).length c203_3) := (blk_cell BK204.out 3).trans rfl
                                have hfz28_0 := blk_frozen BK204.out 0
                                have hfz28_1 := blk_frozen BK204.out 1
                                have hfz28_2 := blk_frozen BK204.out 2
                                have hfz28_3 := blk_frozen BK204.out 3
                                go_wp2
                                go_meet
                                case rel => exact ⟨_, ((((rd_T39 l0 a1).f0) != 4)), (by first | rfl | (simp; done) | (simp [*]; done) | (simp [Int.tdiv_eq_ediv_of_nonneg]; done) | (simp only [xne_nil, xeq_nil, Bool.not_not]; first | done | rfl)), H', ⟨by have := HK1.out; first | omega | exact Nat.le_refl _⟩, ⟨by (with_reducible repeat (first | refine blk_drewN ?_ _ | refine blk_drew ?_ | refine blk_alloc ?_ _)); exact BK204.out⟩, ⟨by repeat (first | (with_reducible first | exact HB.out | apply below_alloc | apply pw_below_drewN | apply below_drew1 | refine below_set ?_ GE204.out) | exact HB.out)⟩⟩
                              · rw [if_neg c27] at H
                                have c27b0 : (((rd_T39 l0 (rd ((rd_T39 l0 a1).f3) x33_1)).f0) == 3) = false := beq_eq_false_iff_ne.mpr c27
                                have c27b1 : (((rd_T39 l0 (rd ((rd_T39 l0 a1).f3) x33_1)).f0) != 3) = true := bne_iff_ne.mpr c27
                                have H' := Aside0.mk H
                                clear H
                                go_wp2
                                go_meet
                                case rel => exact ⟨_, (false), (by first | rfl | (simp; done) | (simp [*]; done) | (simp [Int.tdiv_eq_ediv_of_nonneg]; done) | (simp only [xne_nil, xeq_nil, Bool.not_not]; first | done | rfl)), H', ⟨by have := HK1.out; first | omega | exact Nat.le_refl _⟩, ⟨by (with_reducible repeat (first | refine blk_drewN ?_ _ | refine blk_drew ?_ | refine blk_alloc ?_ _)); exact BK204.out⟩, ⟨by repeat (first | (with_reducible first | exact HB.out | apply below_alloc | apply pw_below_drewN | apply below_drew1 | refine below_set ?_ GE204.out) | exact HB.out)⟩⟩
                          case rest =>
                            clear HC24
                            try clear c1
                            try clear c2
                            try clear p2
                            try clear q2
                            try clear hx2
                            try clear c3
                            try clear c3b0
                            try clear c4
                            try clear c4b0
                            try clear c5
                            try clear c5b0
                            try clear c5b1
                            try clear c10
                            try clear c10b0
                            try clear c10b1
                            try clear c13
                            try clear c13b0
                            try clear c13b1
                            try clear c18
                            try clear c18b0
                            try clear c19
                            try clear c19b0
                            try clear c20
                            try clear c20b0
                            try clear p20
                            try clear q20
                            try clear hx20
                            try clear c21
                            try clear p21
                            try clear q21
                            try clear hx21
                            try clear c22
                            try clear c22b0
                            try clear c23
                            try clear c23b0
                            try clear c26
                            try clear c26b0
                            try clear c26b1
                            try clear c27
                            try clear c27b0
                            try clear c27b1
                            try clear hcz12_0
                            try clear hcz12_1
                            try clear hcz12_2
                            try clear hcz12_3
                            try clear hcz15_0
                            try clear hcz15_1
                            try clear hcz15_2
                            try clear hcz15_3
                            try clear hcz17_0
                            try clear hcz17_1
                            try clear hcz17_2
                            try clear hcz17_3
                            try clear hcz28_0
                            try clear hcz28_1
                            try clear hcz28_2
                            try clear hcz28_3
                            try clear hcz8_0
                            try clear hcz8_1
                            try clear hcz8_2
                            try clear hcz8_3
                            try clear hfz12_0
                            try clear hfz12_1
                            try clear hfz12_2
                            try clear hfz12_3
                            try clear hfz15_0
                            try clear hfz15_1
                            try clear hfz15_2
                            try clear hfz15_3
                            try clear hfz17_0
                            try clear hfz17_1
                            try clear hfz17_2
                            try clear hfz17_3
                            try clear hfz28_0
                            try clear hfz28_1
                            try clear hfz28_2
                            try clear hfz28_3
                            try clear hfz8_0
                            try clear hfz8_1
                            try clear hfz8_2
                            try clear hfz8_3
                            try clear hx203_0
                            try clear hx203_1
                            try clear hx203_2
                            try clear hx203_3
                            try clear hx206_0
                            try clear hx210_0
                            try clear hx210_1
                            try clear hx210_2
                            try clear hx210_3
                            try clear p2
                            try clear p203
                            try clear p206
                            try clear p210
                            try clear q2
                            try clear q203
                            try clear q206
                            try clear q210
                            obtain ⟨kq, x60_23, rfl, HA, HJ23, BK204, HB⟩ := hcut
                            cases kq with
                            | zero => exact absurd HA.out (by simp [impl_reText.j1])
                            | succ kj23 =>
                              have H := HA.out
                              clear HA
                              simp only [impl_reText.j1] at H
                              have HC29 := Aside0.mk H
                              clear H
                              go_upto_if 60 with (fail)
                              go_cut [12, 13] (fun v12 v13 wc => ∃ (kq : Nat) (x12_28 : ByteArray) (x13_28 : Int), v12 = .string x12_28 ∧ v13 = .int .i64 x13_28 ∧ Aside0 (impl_reText.j2 kq l0 x8_1 x9_1 x33_1 x12_28 x13_28 t209 ((rd_T39 l0 a1).f3) (((rd_T39 l0 a1).f3).length : Int) x33_1 ((rd_T39 l0 a1).f0) ((rd_T39 l0 a1).f1) ((rd_T39 l0 a1).f2) ((rd_T39 l0 a1).f3) = some (r1, r2, r3)) ∧ Aside0 (kq ≤ kj23) ∧ Aside0 (wc.heap[gb204]? = some (.cells #[.int .i64 ((rd_T39 l0 a1).f0), .bool ((rd_T39 l0 a1).f1), .string ((rd_T39 l0 a1).f2), (.slice (some ad206) ((rd_T39 l0 a1).f3).length c203_3)] 39 (0, 0))) ∧ Aside0 (Below w.heap.size w wc))
                              case first =>
                                have H := HC29.out
                                clear HC29
                                by_cases c30 : x60_23 = true
                                · subst c30
                                  have H1 : (if 1 + t207.size ≤ 9223372036854775807 then (if ((⟨#[40]⟩ : ByteArray) ++ t207).size + 1 ≤ 9223372036854775807 then (impl_reText.j2 kj23 l0 x8_1 x9_1 x33_1 (((⟨#[40]⟩ : ByteArray) ++ t207) ++ (⟨#[41]⟩ : ByteArray)) (wrap64 (t208 + 1)) t209 ((rd_T39 l0 a1).f3) (((rd_T39 l0 a1).f3).length : Int) x33_1 ((rd_T39 l0 a1).f0) ((rd_T39 l0 a1).f1) ((rd_T39 l0 a1).f2) ((rd_T39 l0 a1).f3)) else (none)) else (none)) = some (r1, r2, r3) := by rw [if_pos rfl] at H; exact H
                                  clear H
                                  have H := H1
                                  clear H1
                                  by_cases c31 : 1 + t207.size ≤ 9223372036854775807
                                  · rw [if_pos c31] at H
                                    have c31b0 := eq_true c31
                                    have c31b1 : decide (1 + t207.size ≤ 9223372036854775807) = true := decide_eq_true c31
                                    try have c31b2 : (9223372036854775807 < 1 + t207.size) = False := eq_false (Nat.not_lt.2 c31)
                                    by_cases c32 : ((⟨#[40]⟩ : ByteArray) ++ t207).size + 1 ≤ 9223372036854775807
                                    · rw [if_pos c32] at H
                                      have c32b0 := eq_true c32
                                      have c32b1 : decide (((⟨#[40]⟩ : ByteArray) ++ t207).size + 1 ≤ 9223372036854775807) = true := decide_eq_true c32
                                      try have c32b2 : (9223372036854775807 < ((⟨#[40]⟩ : ByteArray) ++ t207).size + 1) = False := eq_false (Nat.not_lt.2 c32)
                                      try have c32b3 : (9223372036854775807 < 1 + t207.size + 1) = False := eq_false (Nat.not_lt.2 (by have this_ := c32; simp only [ByteArray.size_append] at this_; exact this_))
                                      have H' := Aside0.mk H
                                      clear H
                                      go_wp2
                                      go_meet
                                      case rel => exact ⟨_, (((⟨#[40]⟩ : ByteArray) ++ t207) ++ (⟨#[41]⟩ : ByteArray)), (wrap64 (t208 + 1)), (by first | rfl | (simp; done) | (simp [*]; done) | (simp [Int.tdiv_eq_ediv_of_nonneg]; done) | (simp only [xne_nil, xeq_nil, Bool.not_not]; first | done | rfl)), (by first | rfl | (simp; done) | (simp [*]; done) | (simp [Int.tdiv_eq_ediv_of_nonneg]; done) | (simp only [xne_nil, xeq_nil, Bool.not_not]; first | done | rfl)), H', ⟨by have := HK1.out; have := HJ23.out; first | omega | exact Nat.le_refl _⟩, ⟨by (with_reducible repeat (first | refine blk_drewN ?_ _ | refine blk_drew ?_ | refine blk_alloc ?_ _)); exact BK204.out⟩, ⟨by repeat (first | (with_reducible first | exact HB.out | apply below_alloc | apply pw_below_drewN | apply below_drew1 | refine below_set ?_ GE204.out) | exact HB.out)⟩⟩
                                    · rw [if_neg c32] at H
                                      exact absurd H (by simp)
                                  · rw [if_neg c31] at H
                                    exact absurd H (by simp)
                                · replace c30 := Bool.eq_false_iff.mpr c30
                                  subst c30
                                  have H1 : (impl_reText.j2 kj23 l0 x8_1 x9_1 x33_1 t207 t208 t209 ((rd_T39 l0 a1).f3) (((rd_T39 l0 a1).f3).length : Int) x33_1 ((rd_T39 l0 a1).f0) ((rd_T39 l0 a1).f1) ((rd_T39 l0 a1).f2) ((rd_T39 l0 a1).f3)) = some (r1, r2, r3) := by rw [if_neg (show ¬ (false = true) by decide)] at H; exact H
                                  clear H
                                  have H := H1
                                  clear H1
                                  have H' := Aside0.mk H
                                  clear H
                                  go_wp2
                                  go_meet
                                  case rel => exact ⟨_, (t207), (t208), (by first | rfl | (simp; done) | (simp [*]; done) | (simp [Int.tdiv_eq_ediv_of_nonneg]; done) | (simp only [xne_nil, xeq_nil, Bool.not_not]; first | done | rfl)), (by first | rfl | (simp; done) | (simp [*]; done) | (simp [Int.tdiv_eq_ediv_of_nonneg]; done) | (simp only [xne_nil, xeq_nil, Bool.not_not]; first | done | rfl)), H', ⟨by have := HK1.out; have := HJ23.out; first | omega | exact Nat.le_refl _⟩, ⟨by (with_reducible repeat (first | refine blk_drewN ?_ _ | refine blk_drew ?_ | refine blk_alloc ?_ _)); exact BK204.out⟩, ⟨by repeat (first | (with_reducible first | exact HB.out | apply below_alloc | apply pw_below_drewN | apply below_drew1 | refine below_set ?_ GE204.out) | exact HB.out)⟩⟩
                              case rest =>
                                clear HC29
                                try clear c1
                                try clear c2
                                try clear p2
                                try clear q2
                                try clear hx2
                                try clear c3
                                try clear c3b0
                                try clear c4
                                try clear c4b0
                                try clear c5
                                try clear c5b0
                                try clear c5b1
                                try clear p6
                                try clear c10
                                try clear c10b0
                                try clear c10b1
                                try clear c13
                                try clear c13b0
                                try clear c13b1
                                try clear c18
                                try clear c18b0
                                try clear c19
                                try clear c19b0
                                try clear c20
                                try clear c20b0
                                try clear p20
                                try clear q20
                                try clear hx20
                                try clear c21
                                try clear p21
                                try clear q21
                                try clear hx21
                                try clear c22
                                try clear c22b0
                                try clear c23
                                try clear c23b0
                                try clear c26
                                try clear c26b0
                                try clear c26b1
                                try clear c27
                                try clear c27b0
                                try clear c27b1
                                try clear c30
                                try clear c31
                                try clear c31b0
                                try clear c31b1
                                try clear c31b2
                                try clear c32
                                try clear c32b0
                                try clear c32b1
                                try clear c32b2
                                try clear hcz12_0
                                try clear hcz12_1
                                try clear hcz12_2
                                try clear hcz12_3
                                try clear hcz15_0
                                try clear hcz15_1
                                try clear hcz15_2
                                try clear hcz15_3
                                try clear hcz17_0
                                try clear hcz17_1
                                try clear hcz17_2
                                try clear hcz17_3
                                try clear hcz28_0
                                try clear hcz28_1
                                try clear hcz28_2
                                try clear hcz28_3
                                try clear hcz8_0
                                try clear hcz8_1
                                try clear hcz8_2
                                try clear hcz8_3
                                try clear hfz12_0
                                try clear hfz12_1
                                try clear hfz12_2
                                try clear hfz12_3
                                try clear hfz15_0
                                try clear hfz15_1
                                try clear hfz15_2
                                try clear hfz15_3
                                try clear hfz17_0
                                try clear hfz17_1
                                try clear hfz17_2
                                try clear hfz17_3
                                try clear hfz28_0
                                try clear hfz28_1
                                try clear hfz28_2
                                try clear hfz28_3
                                try clear hfz8_0
                                try clear hfz8_1
                                try clear hfz8_2
                                try clear hfz8_3
                                try clear hx203_0
                                try clear hx203_1
                                try clear hx203_2
                                try clear hx203_3
                                try clear hx206_0
                                try clear hx210_0
                                try clear hx210_1
                                try clear hx210_2
                                try clear hx210_3
                                try clear p2
                                try clear p20
                                try clear p203
                                try clear p206
                                try clear p21
                                try clear p210
                                try clear q2
                                try clear q20
                                try clear q203
                                try clear q206
                                try clear q21
                                try clear q210
                                obtain ⟨kq, x12_28, x13_28, rfl, rfl, HA, HJ28, BK204, HB⟩ := hcut
                                cases kq with
                                | zero => exact absurd HA.out (by simp [impl_reText.j2])
                                | succ kj28 =>
                                  have H := HA.out
                                  clear HA
                                  simp only [impl_reText.j2] at H
                                  have HC33 := Aside0.mk H
                                  clear H
                                  go_upto_region 17 with (fail)
                                  go_cut [72] (fun v72 wc => ∃ (kq : Nat) (x72_32 : Bool), v72 = .bool x72_32 ∧ Aside0 (impl_reText.j3 kq l0 x8_1 x9_1 x12_28 x13_28 t209 ((rd_T39 l0 a1).f3) (((rd_T39 l0 a1).f3).length : Int) x33_1 x72_32 ((rd_T39 l0 a1).f0) ((rd_T39 l0 a1).f1) ((rd_T39 l0 a1).f2) ((rd_T39 l0 a1).f3) = some (r1, r2, r3)) ∧ Aside0 (kq ≤ kj28) ∧ Aside0 (wc.heap[gb204]? = some (.cells #[.int .i64 ((rd_T39 l0 a1).f0), .bool ((rd_T39 l0 a1).f1), .string ((rd_T39 l0 a1).f2), (.slice (some ad206) ((rd_T39 l0 a1).f3).length c203_3)] 39 (0, 0))) ∧ Aside0 (Below w.heap.size w wc))
                                  case first =>
                                    have H := HC33.out
                                    clear HC33
                                    by_cases c34 : x33_1 > 0
                                    · rw [if_pos c34] at H
                                      have c34b0 : decide (0 < x33_1) = true := decide_eq_true c34
                                      clear c34
                                      (first | rw [c34b0] | (simp only [i64_w, i32_w]; rw [c34b0]) | skip)
                                      have H' := Aside0.mk H
                                      clear H
                                      have hcz35_0 : wc.cell? ⟨gb204, 0, none⟩ = some (.int .i64 ((rd_T39 l0 a1).f0)) := (blk_cell BK204.out 0).trans rfl
                                      have hcz35_1 : wc.cell? ⟨gb204, 1, none⟩ = some (.bool ((rd_T39 l0 a1).f1)) := (blk_cell BK204.out 1).trans rfl
                                      have hcz35_2 : wc.cell? ⟨gb204, 2, none⟩ = some (.string ((rd_T39 l0 a1).f2)) := (blk_cell BK204.out 2).trans rfl
                                      have hcz35_3 : wc.cell? ⟨gb204, 3, none⟩ = some (.slice (some ad206) ((rd_T39 l0 a1).f3).length c203_3) := (blk_cell BK204.out 3).trans rfl
                                      have hfz35_0 := blk_frozen BK204.out 0
                                      have hfz35_1 := blk_frozen BK204.out 1
                                      have hfz35_2 := blk_frozen BK204.out 2
                                      have hfz35_3 := blk_frozen BK204.out 3
                                      go_wp2
                                      go_meet
                                      case rel => exact ⟨_, ((((rd_T39 l0 a1).f0) == 4)), (by first | rfl | (simp; done) | (simp [*]; done) | (simp [Int.tdiv_eq_ediv_of_nonneg]; done) | (simp only [xne_nil, xeq_nil, Bool.not_not]; first | done | rfl)), H', ⟨by have := HK1.out; have := HJ23.out; have := HJ28.out; first | omega | exact Nat.le_refl _⟩, ⟨by (with_reducible repeat (first | refine blk_drewN ?_ _ | refine blk_drew ?_ | refine blk_alloc ?_ _)); exact BK204.out⟩, ⟨by repeat (first | (with_reducible first | exact HB.out | apply below_alloc | apply pw_below_drewN | apply below_drew1 | refine below_set ?_ GE204.out) | exact HB.out)⟩⟩
                                    · rw [if_neg c34] at H
                                      have c34b0 : decide (0 < x33_1) = false := decide_eq_false c34
                                      clear c34
                                      (first | rw [c34b0] | (simp only [i64_w, i32_w]; rw [c34b0]) | skip)
                                      have H' := Aside0.mk H
                                      clear H
                                      go_wp2
                                      go_meet
                                      case rel => exact ⟨_, (false), (by first | rfl | (simp; done) | (simp [*]; done) | (simp [Int.tdiv_eq_ediv_of_nonneg]; done) | (simp only [xne_nil, xeq_nil, Bool.not_not]; first | done | rfl)), H', ⟨by have := HK1.out; have := HJ23.out; have := HJ28.out; first | omega | exact Nat.le_refl _⟩, ⟨by (with_reducible repeat (first | refine blk_drewN ?_ _ | refine blk_drew ?_ | refine blk_alloc ?_ _)); exact BK204.out⟩, ⟨by repeat (first | (with_reducible first | exact HB.out | apply below_alloc | apply pw_below_drewN | apply below_drew1 | refine below_set ?_ GE204.out) | exact HB.out)⟩⟩
                                  case rest =>
                                    clear HC33
                                    try clear c1
                                    try clear c2
                                    try clear p2
                                    try clear q2
                                    try clear hx2
                                    try clear c3
                                    try clear c3b0
                                    try clear c4
                                    try clear c4b0
                                    try clear c5
                                    try clear c5b0
                                    try clear c5b1
                                    try clear p6
                                    try clear c10
                                    try clear c10b0
                                    try clear c10b1
                                    try clear c13
                                    try clear c13b0
                                    try clear c13b1
                                    try clear c18
                                    try clear c18b0
                                    try clear c19
                                    try clear c19b0
                                    try clear c20
                                    try clear c20b0
                                    try clear p20
                                    try clear q20
                                    try clear hx20
                                    try clear c21
                                    try clear p21
                                    try clear q21
                                    try clear hx21
                                    try clear c22
                                    try clear c22b0
                                    try clear c23
                                    try clear c23b0
                                    try clear c26
                                    try clear c26b0
                                    try clear c26b1
                                    try clear c27
                                    try clear c27b0
                                    try clear c27b1
                                    try clear c30
                                    try clear c31
                                    try clear c31b0
                                    try clear c31b1
                                    try clear c31b2
                                    try clear c32
                                    try clear c32b0
                                    try clear c32b1
                                    try clear c32b2
                                    try clear c34
                                    try clear c34b0
                                    try clear hcz12_0
                                    try clear hcz12_1
                                    try clear hcz12_2
                                    try clear hcz12_3
                                    try clear hcz15_0
                                    try clear hcz15_1
                                    try clear hcz15_2
                                    try clear hcz15_3
                                    try clear hcz17_0
                                    try clear hcz17_1
                                    try clear hcz17_2
                                    try clear hcz17_3
                                    try clear hcz28_0
                                    try clear hcz28_1
                                    try clear hcz28_2
                                    try clear hcz28_3
                                    try clear hcz35_0
                                    try clear hcz35_1
                                    try clear hcz35_2
                                    try clear hcz35_3
                                    try clear hcz8_0
                                    try clear hcz8_1
                                    try clear hcz8_2
                                    try clear hcz8_3
                                    try clear hfz12_0
                                    try clear hfz12_1
                                    try clear hfz12_2
                                    try clear hfz12_3
                                    try clear hfz15_0
                                    try clear hfz15_1
                                    try clear hfz15_2
                                    try clear hfz15_3
                                    try clear hfz17_0
                                    try clear hfz17_1
                                    try clear hfz17_2
                                    try clear hfz17_3
                                    try clear hfz28_0
                                    try clear hfz28_1
                                    try clear hfz28_2
                                    try clear hfz28_3
                                    try clear hfz35_0
                                    try clear hfz35_1
                                    try clear hfz35_2
                                    try clear hfz35_3
                                    try clear hfz8_0
                                    try clear hfz8_1
                                    try clear hfz8_2
                                    try clear hfz8_3
                                    try clear hx203_0
                                    try clear hx203_1
                                    try clear hx203_2
                                    try clear hx203_3
                                    try clear hx206_0
                                    try clear hx210_0
                                    try clear hx210_1
                                    try clear hx210_2
                                    try clear hx210_3
                                    try clear p2
                                    try clear p20
                                    try clear p203
                                    try clear p206
                                    try clear p21
                                    try clear p210
                                    try clear p6
                                    try clear q2
                                    try clear q20
                                    try clear q203
                                    try clear q206
                                    try clear q21
                                    try clear q210
                                    obtain ⟨kq, x72_32, rfl, HA, HJ32, BK204, HB⟩ := hcut
                                    cases kq with
                                    | zero => exact absurd HA.out (by simp [impl_reText.j3])
                                    | succ kj32 =>
                                      have H := HA.out
                                      clear HA
                                      simp only [impl_reText.j3] at H
                                      by_cases c36 : x72_32 = true
                                      · subst c36
                                        have H1 : (if x8_1.size + 1 ≤ 9223372036854775807 then (if (x8_1 ++ (⟨#[124]⟩ : ByteArray)).size + x12_28.size ≤ 9223372036854775807 then (if t209 = true then (if (((x8_1 ++ (⟨#[124]⟩ : ByteArray)) ++ x12_28).size : Int) > 200 then (some ((⟨#[]⟩ : ByteArray), 0, false)) else (impl_reText.l0 kj32 l0 ((x8_1 ++ (⟨#[124]⟩ : ByteArray)) ++ x12_28) (mx x9_1 x13_28) ((rd_T39 l0 a1).f3) (((rd_T39 l0 a1).f3).length : Int) (wrap64 (x33_1 + 1)) ((rd_T39 l0 a1).f0) ((rd_T39 l0 a1).f1) ((rd_T39 l0 a1).f2) ((rd_T39 l0 a1).f3))) else (some ((⟨#[]⟩ : ByteArray), 0, false))) else (none)) else (none)) = some (r1, r2, r3) := by rw [if_pos rfl] at H; exact H
                                        clear H
                                        have H := H1
                                        clear H1
                                        by_cases c37 : x8_1.size + 1 ≤ 9223372036854775807
                                        · rw [if_pos c37] at H
                                          have c37b0 := eq_true c37
                                          have c37b1 : decide (x8_1.size + 1 ≤ 9223372036854775807) = true := decide_eq_true c37
                                          try have c37b2 : (9223372036854775807 < x8_1.size + 1) = False := eq_false (Nat.not_lt.2 c37)
                                          by_cases c38 : (x8_1 ++ (⟨#[124]⟩ : ByteArray)).size + x12_28.size ≤ 9223372036854775807
                                          · rw [if_pos c38] at H
                                            have c38b0 := eq_true c38
                                            have c38b1 : decide ((x8_1 ++ (⟨#[124]⟩ : ByteArray)).size + x12_28.size ≤ 9223372036854775807) = true := decide_eq_true c38
                                            try have c38b2 : (9223372036854775807 < (x8_1 ++ (⟨#[124]⟩ : ByteArray)).size + x12_28.size) = False := eq_false (Nat.not_lt.2 c38)
                                            try have c38b3 : (9223372036854775807 < x8_1.size + 1 + x12_28.size) = False := eq_false (Nat.not_lt.2 (by have this_ := c38; simp only [ByteArray.size_append] at this_; exact this_))
                                            obtain ⟨ji39, hji39⟩ : ∃ j_ : Int, (mx x9_1 x13_28) = j_ := ⟨_, rfl⟩
                                            replace H : (if t209 = true then (if (((x8_1 ++ (⟨#[124]⟩ : ByteArray)) ++ x12_28).size : Int) > 200 then (some ((⟨#[]⟩ : ByteArray), 0, false)) else (impl_reText.l0 kj32 l0 ((x8_1 ++ (⟨#[124]⟩ : ByteArray)) ++ x12_28) ji39 ((rd_T39 l0 a1).f3) (((rd_T39 l0 a1).f3).length : Int) (wrap64 (x33_1 + 1)) ((rd_T39 l0 a1).f0) ((rd_T39 l0 a1).f1) ((rd_T39 l0 a1).f2) ((rd_T39 l0 a1).f3))) else (some ((⟨#[]⟩ : ByteArray), 0, false))) = some (r1, r2, r3) := by first | (rw [hji39] at H; exact H) | (simp only [hji39] at H ⊢; exact H)
                                            have hji39_ : (if x9_1 < x13_28 then x13_28 else x9_1) = ji39 := hji39
                                            by_cases c40 : t209 = true
                                            · subst c40
                                              have H1 : (if (((x8_1 ++ (⟨#[124]⟩ : ByteArray)) ++ x12_28).size : Int) > 200 then (some ((⟨#[]⟩ : ByteArray), 0, false)) else (impl_reText.l0 kj32 l0 ((x8_1 ++ (⟨#[124]⟩ : ByteArray)) ++ x12_28) ji39 ((rd_T39 l0 a1).f3) (((rd_T39 l0 a1).f3).length : Int) (wrap64 (x33_1 + 1)) ((rd_T39 l0 a1).f0) ((rd_T39 l0 a1).f1) ((rd_T39 l0 a1).f2) ((rd_T39 l0 a1).f3))) = some (r1, r2, r3) := by rw [if_pos rfl] at H; exact H
                                              clear H
                                              have H := H1
                                              clear H1
                                              by_cases c41 : (((x8_1 ++ (⟨#[124]⟩ : ByteArray)) ++ x12_28).size : Int) > 200
                                              · rw [if_pos c41] at H
                                                have c41b0 : decide (200 < (((x8_1 ++ (⟨#[124]⟩ : ByteArray)) ++ x12_28).size : Int)) = true := decide_eq_true c41
                                                (try have c41b0z : decide (200 < (x8_1.size : Int) + 1 + (x12_28.size : Int)) = true := by have e_ : (((x8_1 ++ (⟨#[124]⟩ : ByteArray)) ++ x12_28).size : Int) = (x8_1.size : Int) + 1 + (x12_28.size : Int) := (by simp only [ByteArray.size_append, Int.natCast_add] <;> rfl); rw [← e_]; exact c41b0)
                                                have c41b1 : decide (200 < ((x8_1 ++ (⟨#[124]⟩ : ByteArray)) ++ x12_28).size) = true := decide_eq_true (by omega)
                                                clear c41
                                                simp only [Option.some.injEq, Prod.mk.injEq] at H
                                                obtain ⟨rfl, rfl, rfl⟩ := H
                                                go_wp2
                                                go_ret3
                                                exact ⟨by first | rfl | (simp [errW_none, errW_some] <;> rfl) | (simp only [← hji39]; first | rfl | (simp [errW_none, errW_some] <;> rfl)) | (simp [*, errW_none, errW_some] <;> rfl) | (simp only [xne_nil, xeq_nil]; first | rfl | (simp [errW_none, errW_some] <;> rfl)), by repeat (first | (with_reducible first | exact HB.out | apply below_alloc | apply pw_below_drewN | apply below_drew1 | refine below_set ?_ GE204.out) | exact HB.out)⟩
                                              · rw [if_neg c41] at H
                                                have c41b0 : decide (200 < (((x8_1 ++ (⟨#[124]⟩ : ByteArray)) ++ x12_28).size : Int)) = false := decide_eq_false c41
                                                (try have c41b0z : decide (200 < (x8_1.size : Int) + 1 + (x12_28.size : Int)) = false := by have e_ : (((x8_1 ++ (⟨#[124]⟩ : ByteArray)) ++ x12_28).size : Int) = (x8_1.size : Int) + 1 + (x12_28.size : Int) := (by simp only [ByteArray.size_append, Int.natCast_add] <;> rfl); rw [← e_]; exact c41b0)
                                                have c41b1 : decide (200 < ((x8_1 ++ (⟨#[124]⟩ : ByteArray)) ++ x12_28).size) = false := decide_eq_false (by omega)
                                                clear c41
                                                have H' := Aside0.mk H
                                                clear H
                                                go_wp2
                                                go_roundg kj32
                                                case measure => have := HK1.out; have := HJ23.out; have := HJ28.out; have := HJ32.out; omega
                                                case rel => exact ⟨((x8_1 ++ (⟨#[124]⟩ : ByteArray)) ++ x12_28), (ji39), (wrap64 (x33_1 + 1)), (by first | rfl | (simp; done) | (simp [*]; done) | (simp [Int.tdiv_eq_ediv_of_nonneg]; done) | (simp only [xne_nil, xeq_nil, Bool.not_not]; first | done | rfl)), (by first | rfl | (simp; done) | (simp only [← hji39] <;> (first | rfl | simp)) | (simp [*]; done)), (by first | rfl | (simp; done) | (simp [*]; done) | (simp [Int.tdiv_eq_ediv_of_nonneg]; done) | (simp only [xne_nil, xeq_nil, Bool.not_not]; first | done | rfl)), (by first | exact H' | (simp only [hji39]; exact H') | (simp only [hji39] at H' ⊢; exact H')), ⟨by have := HK1.out; have := HJ23.out; have := HJ28.out; have := HJ32.out; omega⟩, ⟨by (with_reducible repeat (first | refine blk_drewN ?_ _ | refine blk_drew ?_ | refine blk_alloc ?_ _)); exact BK204.out⟩, ⟨by repeat (first | (with_reducible first | exact HB.out | apply below_alloc | apply pw_below_drewN | apply below_drew1 | refine below_set ?_ GE204.out) | exact HB.out)⟩⟩
                                            · replace c40 := Bool.eq_false_iff.mpr c40
                                              subst c40
                                              have H1 : (some ((⟨#[]⟩ : ByteArray), 0, false)) = some (r1, r2, r3) := by rw [if_neg (show ¬ (false = true) by decide)] at H; exact H
                                              clear H
                                              have H := H1
                                              clear H1
                                              simp only [Option.some.injEq, Prod.mk.injEq] at H
                                              obtain ⟨rfl, rfl, rfl⟩ := H
                                              go_wp2
                                              go_ret3
                                              exact ⟨by first | rfl | (simp [errW_none, errW_some] <;> rfl) | (simp only [← hji39]; first | rfl | (simp [errW_none, errW_some] <;> rfl)) | (simp [*, errW_none, errW_some] <;> rfl) | (simp only [xne_nil, xeq_nil]; first | rfl | (simp [errW_none, errW_some] <;> rfl)), by repeat (first | (with_reducible first | exact HB.out | apply below_alloc | apply pw_below_drewN | apply below_drew1 | refine below_set ?_ GE204.out) | exact HB.out)⟩
                                          · rw [if_neg c38] at H
                                            exact absurd H (by simp)
                                        · rw [if_neg c37] at H
                                          exact absurd H (by simp)
                                      · replace c36 := Bool.eq_false_iff.mpr c36
                                        subst c36
                                        have H1 : (if x8_1.size + x12_28.size ≤ 9223372036854775807 then (if t209 = true then (if ((x8_1 ++ x12_28).size : Int) > 200 then (some ((⟨#[]⟩ : ByteArray), 0, false)) else (impl_reText.l0 kj32 l0 (x8_1 ++ x12_28) (mx x9_1 x13_28) ((rd_T39 l0 a1).f3) (((rd_T39 l0 a1).f3).length : Int) (wrap64 (x33_1 + 1)) ((rd_T39 l0 a1).f0) ((rd_T39 l0 a1).f1) ((rd_T39 l0 a1).f2) ((rd_T39 l0 a1).f3))) else (some ((⟨#[]⟩ : ByteArray), 0, false))) else (none)) = some (r1, r2, r3) := by rw [if_neg (show ¬ (false = true) by decide)] at H; exact H
                                        clear H
                                        have H := H1
                                        clear H1
                                        by_cases c42 : x8_1.size + x12_28.size ≤ 9223372036854775807
                                        · rw [if_pos c42] at H
                                          have c42b0 := eq_true c42
                                          have c42b1 : decide (x8_1.size + x12_28.size ≤ 9223372036854775807) = true := decide_eq_true c42
                                          try have c42b2 : (9223372036854775807 < x8_1.size + x12_28.size) = False := eq_false (Nat.not_lt.2 c42)
                                          obtain ⟨ji43, hji43⟩ : ∃ j_ : Int, (mx x9_1 x13_28) = j_ := ⟨_, rfl⟩
                                          replace H : (if t209 = true then (if ((x8_1 ++ x12_28).size : Int) > 200 then (some ((⟨#[]⟩ : ByteArray), 0, false)) else (impl_reText.l0 kj32 l0 (x8_1 ++ x12_28) ji43 ((rd_T39 l0 a1).f3) (((rd_T39 l0 a1).f3).length : Int) (wrap64 (x33_1 + 1)) ((rd_T39 l0 a1).f0) ((rd_T39 l0 a1).f1) ((rd_T39 l0 a1).f2) ((rd_T39 l0 a1).f3))) else (some ((⟨#[]⟩ : ByteArray), 0, false))) = some (r1, r2, r3) := by first | (rw [hji43] at H; exact H) | (simp only [hji43] at H ⊢; exact H)
                                          have hji43_ : (if x9_1 < x13_28 then x13_28 else x9_1) = ji43 := hji43
                                          by_cases c44 : t209 = true
                                          · subst c44
                                            have H1 : (if ((x8_1 ++ x12_28).size : Int) > 200 then (some ((⟨#[]⟩ : ByteArray), 0, false)) else (impl_reText.l0 kj32 l0 (x8_1 ++ x12_28) ji43 ((rd_T39 l0 a1).f3) (((rd_T39 l0 a1).f3).length : Int) (wrap64 (x33_1 + 1)) ((rd_T39 l0 a1).f0) ((rd_T39 l0 a1).f1) ((rd_T39 l0 a1).f2) ((rd_T39 l0 a1).f3))) = some (r1, r2, r3) := by rw [if_pos rfl] at H; exact H
                                            clear H
                                            have H := H1
                                            clear H1
                                            by_cases c45 : ((x8_1 ++ x12_28).size : Int) > 200
                                            · rw [if_pos c45] at H
                                              have c45b0 : decide (200 < ((x8_1 ++ x12_28).size : Int)) = true := decide_eq_true c45
                                              (try have c45b0z : decide (200 < (x8_1.size : Int) + (x12_28.size : Int)) = true := by have e_ : ((x8_1 ++ x12_28).size : Int) = (x8_1.size : Int) + (x12_28.size : Int) := (by simp only [ByteArray.size_append, Int.natCast_add] <;> rfl); rw [← e_]; exact c45b0)
                                              have c45b1 : decide (200 < (x8_1 ++ x12_28).size) = true := decide_eq_true (by omega)
                                              clear c45
                                              simp only [Option.some.injEq, Prod.mk.injEq] at H
                                              obtain ⟨rfl, rfl, rfl⟩ := H
                                              go_wp2
                                              go_ret3
                                              exact ⟨by first | rfl | (simp [errW_none, errW_some] <;> rfl) | (simp only [← hji43]; first | rfl | (simp [errW_none, errW_some] <;> rfl)) | (simp [*, errW_none, errW_some] <;> rfl) | (simp only [xne_nil, xeq_nil]; first | rfl | (simp [errW_none, errW_some] <;> rfl)), by repeat (first | (with_reducible first | exact HB.out | apply below_alloc | apply pw_below_drewN | apply below_drew1 | refine below_set ?_ GE204.out) | exact HB.out)⟩
                                            · rw [if_neg c45] at H
                                              have c45b0 : decide (200 < ((x8_1 ++ x12_28).size : Int)) = false := decide_eq_false c45
                                              (try have c45b0z : decide (200 < (x8_1.size : Int) + (x12_28.size : Int)) = false := by have e_ : ((x8_1 ++ x12_28).size : Int) = (x8_1.size : Int) + (x12_28.size : Int) := (by simp only [ByteArray.size_append, Int.natCast_add] <;> rfl); rw [← e_]; exact c45b0)
                                              have c45b1 : decide (200 < (x8_1 ++ x12_28).size) = false := decide_eq_false (by omega)
                                              clear c45
                                              have H' := Aside0.mk H
                                              clear H
                                              go_wp2
                                              go_roundg kj32
                                              case measure => have := HK1.out; have := HJ23.out; have := HJ28.out; have := HJ32.out; omega
                                              case rel => exact ⟨(x8_1 ++ x12_28), (ji43), (wrap64 (x33_1 + 1)), (by first | rfl | (simp; done) | (simp [*]; done) | (simp [Int.tdiv_eq_ediv_of_nonneg]; done) | (simp only [xne_nil, xeq_nil, Bool.not_not]; first | done | rfl)), (by first | rfl | (simp; done) | (simp only [← hji43] <;> (first | rfl | simp)) | (simp [*]; done)), (by first | rfl | (simp; done) | (simp [*]; done) | (simp [Int.tdiv_eq_ediv_of_nonneg]; done) | (simp only [xne_nil, xeq_nil, Bool.not_not]; first | done | rfl)), (by first | exact H' | (simp only [hji43]; exact H') | (simp only [hji43] at H' ⊢; exact H')), ⟨by have := HK1.out; have := HJ23.out; have := HJ28.out; have := HJ32.out; omega⟩, ⟨by (with_reducible repeat (first | refine blk_drewN ?_ _ | refine blk_drew ?_ | refine blk_alloc ?_ _)); exact BK204.out⟩, ⟨by repeat (first | (with_reducible first | exact HB.out | apply below_alloc | apply pw_below_drewN | apply below_drew1 | refine below_set ?_ GE204.out) | exact HB.out)⟩⟩
                                          · replace c44 := Bool.eq_false_iff.mpr c44
                                            subst c44
                                            have H1 : (some ((⟨#[]⟩ : ByteArray), 0, false)) = some (r1, r2, r3) := by rw [if_neg (show ¬ (false = true) by decide)] at H; exact H
                                            clear H
                                            have H := H1
                                            clear H1
                                            simp only [Option.some.injEq, Prod.mk.injEq] at H
                                            obtain ⟨rfl, rfl, rfl⟩ := H
                                            go_wp2
                                            go_ret3
                                            exact ⟨by first | rfl | (simp [errW_none, errW_some] <;> rfl) | (simp only [← hji43]; first | rfl | (simp [errW_none, errW_some] <;> rfl)) | (simp [*, errW_none, errW_some] <;> rfl) | (simp only [xne_nil, xeq_nil]; first | rfl | (simp [errW_none, errW_some] <;> rfl)), by repeat (first | (with_reducible first | exact HB.out | apply below_alloc | apply pw_below_drewN | apply below_drew1 | refine below_set ?_ GE204.out) | exact HB.out)⟩
                                        · rw [if_neg c42] at H
                                          exact absurd H (by simp)
                        · rw [if_neg c23] at H
                          exact absurd H (by simp)
                      · rw [if_neg c22] at H
                        exact absurd H (by simp)
                    · rw [if_neg c20] at H
                      exact absurd H (by simp)
                  · rw [if_neg c19] at H
                    exact absurd H (by simp)
                · rw [if_neg c18] at H
                  have c18b0 : decide (x33_1 < (((rd_T39 l0 a1).f3).length : Int)) = false := decide_eq_false c18
                  clear c18
                  by_cases c46 : ((rd_T39 l0 a1).f0) ≥ 5
                  · rw [if_pos c46] at H
                    have c46b0 : decide (5 ≤ ((rd_T39 l0 a1).f0)) = true := decide_eq_true c46
                    clear c46
                    obtain ⟨ji47, hji47⟩ : ∃ j_ : Int, (wrap64 (((rd_T39 l0 a1).f0) - 5)) = j_ := ⟨_, rfl⟩
                    replace H : (if 0 ≤ (ji47) then (if (ji47) ≤ (wrap64 ((ji47) + 1)) then (if (wrap64 ((ji47) + 1)) ≤ 3 then (if x8_1.size + ((⟨#[42, 43, 63]⟩ : ByteArray).extract ((ji47) : Int).toNat ((wrap64 ((ji47) + 1)) : Int).toNat).size ≤ 9223372036854775807 then (some (x8_1 ++ ((⟨#[42, 43, 63]⟩ : ByteArray).extract ((ji47) : Int).toNat ((wrap64 ((ji47) + 1)) : Int).toNat), x9_1, true)) else (none)) else (none)) else (none)) else (none)) = some (r1, r2, r3) := by first | (rw [hji47] at H; exact H) | (simp only [hji47] at H ⊢; exact H)
                    have hji47w : (IntKind.i64.wrap (((rd_T39 l0 a1).f0) - 5)) = ji47 := (i64_w _).trans hji47
                    by_cases c48 : 0 ≤ (ji47)
                    · rw [if_pos c48] at H
                      have c48b0 := eq_true c48
                      have c48b1 : decide (0 ≤ (ji47)) = true := decide_eq_true c48
                      clear c48
                      by_cases c49 : (ji47) ≤ (wrap64 ((ji47) + 1))
                      · rw [if_pos c49] at H
                        have c49b0 := eq_true c49
                        have c49b1 : decide ((ji47) ≤ (wrap64 ((ji47) + 1))) = true := decide_eq_true c49
                        by_cases c50 : (wrap64 ((ji47) + 1)) ≤ 3
                        · rw [if_pos c50] at H
                          have c50b0 := eq_true c50
                          have c50b1 : decide ((wrap64 ((ji47) + 1)) ≤ 3) = true := decide_eq_true c50
                          by_cases c51 : x8_1.size + ((⟨#[42, 43, 63]⟩ : ByteArray).extract ((ji47) : Int).toNat ((wrap64 ((ji47) + 1)) : Int).toNat).size ≤ 9223372036854775807
                          · rw [if_pos c51] at H
                            have c51b0 := eq_true c51
                            have c51b1 : decide (x8_1.size + ((⟨#[42, 43, 63]⟩ : ByteArray).extract ((ji47) : Int).toNat ((wrap64 ((ji47) + 1)) : Int).toNat).size ≤ 9223372036854775807) = true := decide_eq_true c51
                            try have c51b2 : (9223372036854775807 < x8_1.size + ((⟨#[42, 43, 63]⟩ : ByteArray).extract ((ji47) : Int).toNat ((wrap64 ((ji47) + 1)) : Int).toNat).size) = False := eq_false (Nat.not_lt.2 c51)
                            simp only [Option.some.injEq, Prod.mk.injEq] at H
                            obtain ⟨rfl, rfl, rfl⟩ := H
                            have hcz52_0 : wr.cell? ⟨gb204, 0, none⟩ = some (.int .i64 ((rd_T39 l0 a1).f0)) := (blk_cell BK204.out 0).trans rfl
                            have hcz52_1 : wr.cell? ⟨gb204, 1, none⟩ = some (.bool ((rd_T39 l0 a1).f1)) := (blk_cell BK204.out 1).trans rfl
                            have hcz52_2 : wr.cell? ⟨gb204, 2, none⟩ = some (.string ((rd_T39 l0 a1).f2)) := (blk_cell BK204.out 2).trans rfl
                            have hcz52_3 : wr.cell? ⟨gb204, 3, none⟩ = some (.slice A203_3 ((rd_T39 l0 a1).f3).length c203_3) := (blk_cell BK204.out 3).trans rfl
                            have hfz52_0 := blk_frozen BK204.out 0
                            have hfz52_1 := blk_frozen BK204.out 1
                            have hfz52_2 := blk_frozen BK204.out 2
                            have hfz52_3 := blk_frozen BK204.out 3
                            go_wp2
                            go_ret3
                            exact ⟨by first | rfl | (simp [errW_none, errW_some] <;> rfl) | (simp only [← hji47]; first | rfl | (simp [errW_none, errW_some] <;> rfl)) | (simp [*, errW_none, errW_some] <;> rfl) | (simp only [xne_nil, xeq_nil]; first | rfl | (simp [errW_none, errW_some] <;> rfl)), by repeat (first | (with_reducible first | exact HB.out | apply below_alloc | apply pw_below_drewN | apply below_drew1 | refine below_set ?_ GE204.out) | exact HB.out)⟩
                          · rw [if_neg c51] at H
                            exact absurd H (by simp)
                        · rw [if_neg c50] at H
                          exact absurd H (by simp)
                      · rw [if_neg c49] at H
                        exact absurd H (by simp)
                    · rw [if_neg c48] at H
                      exact absurd H (by simp)
                  · rw [if_neg c46] at H
                    have c46b0 : decide (5 ≤ ((rd_T39 l0 a1).f0)) = false := decide_eq_false c46
                    clear c46
                    simp only [Option.some.injEq, Prod.mk.injEq] at H
                    obtain ⟨rfl, rfl, rfl⟩ := H
                    have hcz53_0 : wr.cell? ⟨gb204, 0, none⟩ = some (.int .i64 ((rd_T39 l0 a1).f0)) := (blk_cell BK204.out 0).trans rfl
                    have hcz53_1 : wr.cell? ⟨gb204, 1, none⟩ = some (.bool ((rd_T39 l0 a1).f1)) := (blk_cell BK204.out 1).trans rfl
                    have hcz53_2 : wr.cell? ⟨gb204, 2, none⟩ = some (.string ((rd_T39 l0 a1).f2)) := (blk_cell BK204.out 2).trans rfl
                    have hcz53_3 : wr.cell? ⟨gb204, 3, none⟩ = some (.slice A203_3 ((rd_T39 l0 a1).f3).length c203_3) := (blk_cell BK204.out 3).trans rfl
                    have hfz53_0 := blk_frozen BK204.out 0
                    have hfz53_1 := blk_frozen BK204.out 1
                    have hfz53_2 := blk_frozen BK204.out 2
                    have hfz53_3 := blk_frozen BK204.out 3
                    go_wp2
                    go_ret3
                    exact ⟨by first | rfl | (simp [errW_none, errW_some] <;> rfl) | (simp [*, errW_none, errW_some] <;> rfl) | (simp only [xne_nil, xeq_nil]; first | rfl | (simp [errW_none, errW_some] <;> rfl)), by repeat (first | (with_reducible first | exact HB.out | apply below_alloc | apply pw_below_drewN | apply below_drew1 | refine below_set ?_ GE204.out) | exact HB.out)⟩
    · rw [if_neg c4] at H
      exact absurd H (by simp)
  · rw [if_neg c3] at H
    exact absurd H (by simp)

end Go.Proofs.Ytmddcohelcciaaa.PFnExactReText
