-- PRINTED BY print.sh 35421559b90ae4d0a3588c463048766b98c2df88dd9212a6774a882060cdf62d: not written by this session
import Derived.Test.YtbaiaflphdkecabPFnExactSubTextx0
namespace Go.Proofs.Ytbaiaflphdkecab.PFnExactSubText
open Go.RowKit Go.Proofs.YtbaiaflphdkecabW.PrintWords Go.Proofs.YtbaiaflphdkecabW.PrintLast Go.Proofs.YtbaiaflphdkecabW.PrintMore
attribute [local go_sem] max2_int min2_int max_two min_two max_three min_three max_four min_four   -- for this text's walks alone
set_option linter.unusedVariables false
set_option linter.unusedSimpArgs false

/-! ### spec_SubText: function 12 -/
def spec_SubText.l0 : Nat → ByteArray → Int → Int → List Int → Int → Option (ByteArray)
  | 0, _, _, _, _, _ => none
  | k + 1, x0, x1, x2, x7, x8 => if x8 ≤ (x0.size : Int) then (if x8 ≥ x1 then (if x2 = 9000000000000 then (if 0 ≤ (wrap64 (x8 - 1)) then (if (wrap64 (x8 - 1)) < (x0.size : Int) then (if x7.length < 140737488355328 then (spec_SubText.l0 k x0 x1 x2 (x7 ++ [bt x0 (wrap64 (x8 - 1))]) (wrap64 (x8 + 1))) else (none)) else (none)) else (none)) else (if x2 > 0 then (if (wrap64 (x8 - x2)) < x1 then (if 0 ≤ (wrap64 (x8 - 1)) then (if (wrap64 (x8 - 1)) < (x0.size : Int) then (if x7.length < 140737488355328 then (spec_SubText.l0 k x0 x1 x2 (x7 ++ [bt x0 (wrap64 (x8 - 1))]) (wrap64 (x8 + 1))) else (none)) else (none)) else (none)) else (spec_SubText.l0 k x0 x1 x2 x7 (wrap64 (x8 + 1)))) else (spec_SubText.l0 k x0 x1 x2 x7 (wrap64 (x8 + 1))))) else (spec_SubText.l0 k x0 x1 x2 x7 (wrap64 (x8 + 1)))) else (some (strOfNums x7))
def spec_SubText.f (k : Nat) (a0 : ByteArray) (a1 : Int) (a2 : Int) : Option (ByteArray) := spec_SubText.l0 k a0 a1 a2 ([] : List Int) 1
theorem spec_SubText.mono_l : ∀ k, (∀ y0 y1 y2 y3 y4, LeO (spec_SubText.l0 k y0 y1 y2 y3 y4) (spec_SubText.l0 (k + 1) y0 y1 y2 y3 y4))
  | 0 => fun _ _ _ _ _ r h => by simp [spec_SubText.l0] at h
  | k + 1 => by
    have ih0 := spec_SubText.mono_l k
    · intro y0 y1 y2 y3 y4
      unfold spec_SubText.l0
      repeat' first
      | (with_reducible exact ih0 _ _ _ _ _)
      | (with_reducible exact LeO.refl _)
      | (with_reducible exact LeO.none _)
      | (with_reducible refine LeO.ite ?_ ?_)
      | (with_reducible refine LeO.bind ?_ (fun _ => ?_))
      | exact ih0 _ _ _ _ _
      | exact LeO.none _
      | refine LeO.ite ?_ ?_
      | refine LeO.bind ?_ (fun _ => ?_)
theorem spec_SubText.mono : ∀ a0 a1 a2 k, LeO (spec_SubText.f k a0 a1 a2) (spec_SubText.f (k + 1) a0 a1 a2) := by
  intro a0 a1 a2 k
  have ih0 := spec_SubText.mono_l k
  unfold spec_SubText.f
  repeat' first
      | (with_reducible exact ih0 _ _ _ _ _)
      | (with_reducible exact LeO.refl _)
      | (with_reducible exact LeO.none _)
      | (with_reducible refine LeO.ite ?_ ?_)
      | (with_reducible refine LeO.bind ?_ (fun _ => ?_))
      | exact ih0 _ _ _ _ _
      | exact LeO.none _
      | refine LeO.ite ?_ ?_
      | refine LeO.bind ?_ (fun _ => ?_)
set_option maxHeartbeats 8000000 in
set_option maxRecDepth 100000 in
theorem spec_SubText.calls (k : Nat) (a0 : ByteArray) (a1 : Int) (a2 : Int) (r : ByteArray) (w : World) (h : spec_SubText.f k a0 a1 a2 = some r) :
    Calls Try.prog 12 #[.string a0, .int .i64 a1, .int .i64 a2] w fun e w' => e = .returned (.string r) ∧ Below w.heap.size w w' := by
  have HB := Aside0.mk (Below.refl w.heap.size w)
  have H : (spec_SubText.l0 k a0 a1 a2 ([] : List Int) 1) = some r := h
  clear h
  have H' := Aside0.mk H
  clear H
  go_enter Try.func12, Try.ntmps12
  go_wp2
  go_loopg [7, 8] k (fun kq v7 v8 w' => ∃ (x7_1 : List Int) (x8_1 : Int), v8 = .int .i64 x8_1 ∧ Aside0 (spec_SubText.l0 kq a0 a1 a2 x7_1 x8_1 = some r) ∧ Aside0 (kq ≤ k) ∧ Aside0 (Kd.R (Kd.int .u8) 5 w' w.heap.size (fun _ => True) v7 x7_1) ∧ Aside0 (Below w.heap.size w w'))
  case atStart => exact ⟨(([] : List Int)), (1), (by first | rfl | (simp; done) | (simp [*]; done)), H', ⟨Nat.le_refl _⟩, ⟨by first | exact Kd.R_nil _ _ _ _ _ | exact Kd.N_nil _ _ _ _ _ | exact Kd.V_nil _ _ _ _ _ | exact Kd.Q_nil _ _ _ _ _ | exact Kd.S_nil _ _ _ _ _⟩, ⟨by repeat (first | (with_reducible first | exact HB.out | apply below_alloc | apply pw_below_drewN | apply below_drew1) | exact HB.out)⟩⟩
  case round =>
    clear H'
    try clear c1
    try clear p2
    obtain ⟨x7_1, x8_1, rfl, HA, HK1, HO_7, HB⟩ := hrel
    cases gk with
    | zero => exact absurd HA.out (by simp [spec_SubText.l0])
    | succ k1 =>
      have H := HA.out
      clear HA
      simp only [spec_SubText.l0] at H
      by_cases c4 : x8_1 ≤ (a0.size : Int)
      · rw [if_pos c4] at H
        have c4b0 : decide (x8_1 ≤ (a0.size : Int)) = true := decide_eq_true c4
        clear c4
        by_cases c5 : x8_1 ≥ a1
        · rw [if_pos c5] at H
          have c5b0 : decide (a1 ≤ x8_1) = true := decide_eq_true c5
          clear c5
          by_cases c6 : a2 = 9000000000000
          · rw [if_pos c6] at H
            have c6b0 : (a2 == 9000000000000) = true := beq_iff_eq.mpr c6
            have c6b1 : (a2 != 9000000000000) = false := bne_eq_false_iff_eq.mpr c6
            clear c6
            obtain ⟨ji7, hji7⟩ : ∃ j_ : Int, (wrap64 (x8_1 - 1)) = j_ := ⟨_, rfl⟩
            replace H : (if 0 ≤ (ji7) then (if (ji7) < (a0.size : Int) then (if x7_1.length < 140737488355328 then (spec_SubText.l0 k1 a0 a1 a2 (x7_1 ++ [bt a0 (ji7)]) (wrap64 (x8_1 + 1))) else (none)) else (none)) else (none)) = some r := by first | (rw [hji7] at H; exact H) | (simp only [hji7] at H ⊢; exact H)
            have hji7w : (IntKind.i64.wrap (x8_1 - 1)) = ji7 := (i64_w _).trans hji7
            by_cases c8 : 0 ≤ (ji7)
            · rw [if_pos c8] at H
              have c8b0 : decide (0 ≤ (ji7)) = true := decide_eq_true c8
              clear c8
              by_cases c9 : (ji7) < (a0.size : Int)
              · rw [if_pos c9] at H
                have c9b0 : decide ((ji7) < (a0.size : Int)) = true := decide_eq_true c9
                clear c9
                by_cases c11 : x7_1.length < 140737488355328
                · rw [if_pos c11] at H
                  have LMc11 := Aside0.mk c11
                  clear c11
                  obtain ⟨y101, hy101⟩ : ∃ y_ : List Int, y_ = (x7_1 ++ [bt a0 (ji7)]) := ⟨_, rfl⟩
                  replace H : (spec_SubText.l0 k1 a0 a1 a2 y101 (wrap64 (x8_1 + 1))) = some r := by first | (rw [hy101]; with_reducible exact H) | (have H2_ := (Option.bind_some _ _).symm.trans H; rw [hy101]; with_reducible exact H2_) | (have H2_ := (Option.bind_some _ _).symm.trans H; with_reducible exact H2_) | with_reducible exact H | (rw [hy101]; exact H) | exact H
                  have Ny101 := Aside0.mk hy101
                  clear hy101
                  have H' := Aside0.mk H
                  clear H
                  have p10 : 0 ≤ ((ji7) : Int) := of_decide_eq_true (by first | (with_reducible assumption) | assumption)
                  have q10 : (ji7) < (a0.size : Int) := of_decide_eq_true (by first | (with_reducible assumption) | assumption)
                  have hx10 := bt_at a0 (ji7)
                  replace p10 := eq_true p10
                  replace q10 := eq_true q10
                  go_wp2_with (first | ((with_reducible refine gate_builtin (b := .append) (xs := #[.tmp 33, .tmp 38]) rfl ?_); at_builtin; refine Kd.R_append (Kd.int .u8) (w0 := w) w.heap.size rfl (.tmp 33) (.tmp 38) 31 5 (.int .u8 0) 1 rfl Try.underlying31 info5 rfl (by decide) (by omega) u7 x7_1 (bt a0 (ji7)) [.int .u8 (bt a0 (ji7))] (fun _ => True) (fun _ => False) rfl rfl ?aP (fun _ hk => hk.elim) ?aF ?aO ?aB ?aS ?aL ?_; (case aP => exact rfl); (case aB => exact (by repeat (first | (with_reducible first | exact HB.out | apply below_alloc | apply pw_below_drewN | apply below_drew1) | exact HB.out))); (case aF => exact (fun _ _ => trivial)); (case aO => exact (by (with_reducible repeat (first | apply Kd.R_alloc | apply Kd.R_drewN | apply Kd.R_drew)); exact HO_7.out)); (case aS => exact (below_size (by repeat (first | (with_reducible first | exact HB.out | apply below_alloc | apply pw_below_drewN | apply below_drew1) | exact HB.out)))); (case aL => have := LMc11.out; omega); intro v102 w12 ho hb hg hat; rw [← Ny101.out] at ho; have n0_ := Aside0.mk (hb); have n1_ := Aside0.mk (ho); clear HB; clear HO_7; have HB := n0_; have HO103 := n1_; clear n0_ n1_; clear ho hb hg hat))
                  go_roundg k1
                  case measure => have := HK1.out; omega
                  case rel => exact ⟨(y101), (wrap64 (x8_1 + 1)), (by first | rfl | (simp; done) | (simp [*]; done)), H', ⟨by have := HK1.out; omega⟩, ⟨by (with_reducible repeat (first | apply Kd.R_alloc | apply Kd.R_drewN | apply Kd.R_drew)); exact HO103.out⟩, ⟨by repeat (first | (with_reducible first | exact HB.out | apply below_alloc | apply pw_below_drewN | apply below_drew1) | exact HB.out)⟩⟩
                · rw [if_neg c11] at H
                  exact absurd H (by simp)
              · rw [if_neg c9] at H
                exact absurd H (by simp)
            · rw [if_neg c8] at H
              exact absurd H (by simp)
          · rw [if_neg c6] at H
            have c6b0 : (a2 == 9000000000000) = false := beq_eq_false_iff_ne.mpr c6
            have c6b1 : (a2 != 9000000000000) = true := bne_iff_ne.mpr c6
            by_cases c13 : a2 > 0
            · rw [if_pos c13] at H
              have c13b0 : decide (0 < a2) = true := decide_eq_true c13
              clear c13
              by_cases c14 : (wrap64 (x8_1 - a2)) < a1
              · rw [if_pos c14] at H
                have c14b0 : decide ((wrap64 (x8_1 - a2)) < a1) = true := decide_eq_true c14
                clear c14
                obtain ⟨ji15, hji15⟩ : ∃ j_ : Int, (wrap64 (x8_1 - 1)) = j_ := ⟨_, rfl⟩
                replace H : (if 0 ≤ (ji15) then (if (ji15) < (a0.size : Int) then (if x7_1.length < 140737488355328 then (spec_SubText.l0 k1 a0 a1 a2 (x7_1 ++ [bt a0 (ji15)]) (wrap64 (x8_1 + 1))) else (none)) else (none)) else (none)) = some r := by first | (rw [hji15] at H; exact H) | (simp only [hji15] at H ⊢; exact H)
                have hji15w : (IntKind.i64.wrap (x8_1 - 1)) = ji15 := (i64_w _).trans hji15
                by_cases c16 : 0 ≤ (ji15)
                · rw [if_pos c16] at H
                  have c16b0 : decide (0 ≤ (ji15)) = true := decide_eq_true c16
                  clear c16
                  by_cases c17 : (ji15) < (a0.size : Int)
                  · rw [if_pos c17] at H
                    have c17b0 : decide ((ji15) < (a0.size : Int)) = true := decide_eq_true c17
                    clear c17
                    by_cases c19 : x7_1.length < 140737488355328
                    · rw [if_pos c19] at H
                      have LMc19 := Aside0.mk c19
                      clear c19
                      obtain ⟨y104, hy104⟩ : ∃ y_ : List Int, y_ = (x7_1 ++ [bt a0 (ji15)]) := ⟨_, rfl⟩
                      replace H : (spec_SubText.l0 k1 a0 a1 a2 y104 (wrap64 (x8_1 + 1))) = some r := by first | (rw [hy104]; with_reducible exact H) | (have H2_ := (Option.bind_some _ _).symm.trans H; rw [hy104]; with_reducible exact H2_) | (have H2_ := (Option.bind_some _ _).symm.trans H; with_reducible exact H2_) | with_reducible exact H | (rw [hy104]; exact H) | exact H
                      have Ny104 := Aside0.mk hy104
                      clear hy104
                      have H' := Aside0.mk H
                      clear H
                      have p18 : 0 ≤ ((ji15) : Int) := of_decide_eq_true (by first | (with_reducible assumption) | assumption)
                      have q18 : (ji15) < (a0.size : Int) := of_decide_eq_true (by first | (with_reducible assumption) | assumption)
                      have hx18 := bt_at a0 (ji15)
                      replace p18 := eq_true p18
                      replace q18 := eq_true q18
                      go_wp2_with (first | ((with_reducible refine gate_builtin (b := .append) (xs := #[.tmp 33, .tmp 38]) rfl ?_); at_builtin; refine Kd.R_append (Kd.int .u8) (w0 := w) w.heap.size rfl (.tmp 33) (.tmp 38) 31 5 (.int .u8 0) 1 rfl Try.underlying31 info5 rfl (by decide) (by omega) u7 x7_1 (bt a0 (ji15)) [.int .u8 (bt a0 (ji15))] (fun _ => True) (fun _ => False) rfl rfl ?aP (fun _ hk => hk.elim) ?aF ?aO ?aB ?aS ?aL ?_; (case aP => exact rfl); (case aB => exact (by repeat (first | (with_reducible first | exact HB.out | apply below_alloc | apply pw_below_drewN | apply below_drew1) | exact HB.out))); (case aF => exact (fun _ _ => trivial)); (case aO => exact (by (with_reducible repeat (first | apply Kd.R_alloc | apply Kd.R_drewN | apply Kd.R_drew)); exact HO_7.out)); (case aS => exact (below_size (by repeat (first | (with_reducible first | exact HB.out | apply below_alloc | apply pw_below_drewN | apply below_drew1) | exact HB.out)))); (case aL => have := LMc19.out; omega); intro v105 w20 ho hb hg hat; rw [← Ny104.out] at ho; have n0_ := Aside0.mk (hb); have n1_ := Aside0.mk (ho); clear HB; clear HO_7; have HB := n0_; have HO106 := n1_; clear n0_ n1_; clear ho hb hg hat))
                      go_roundg k1
                      case measure => have := HK1.out; omega
                      case rel => exact ⟨(y104), (wrap64 (x8_1 + 1)), (by first | rfl | (simp; done) | (simp [*]; done)), H', ⟨by have := HK1.out; omega⟩, ⟨by (with_reducible repeat (first | apply Kd.R_alloc | apply Kd.R_drewN | apply Kd.R_drew)); exact HO106.out⟩, ⟨by repeat (first | (with_reducible first | exact HB.out | apply below_alloc | apply pw_below_drewN | apply below_drew1) | exact HB.out)⟩⟩
                    · rw [if_neg c19] at H
                      exact absurd H (by simp)
                  · rw [if_neg c17] at H
                    exact absurd H (by simp)
                · rw [if_neg c16] at H
                  exact absurd H (by simp)
              · rw [if_neg c14] at H
                have c14b0 : decide ((wrap64 (x8_1 - a2)) < a1) = false := decide_eq_false c14
                clear c14
                have H' := Aside0.mk H
                clear H
                go_wp2
                go_roundg k1
                case measure => have := HK1.out; omega
                case rel => exact ⟨(x7_1), (wrap64 (x8_1 + 1)), (by first | rfl | (simp; done) | (simp [*]; done)), H', ⟨by have := HK1.out; omega⟩, ⟨by (with_reducible repeat (first | apply Kd.R_alloc | apply Kd.R_drewN | apply Kd.R_drew)); exact HO_7.out⟩, ⟨by repeat (first | (with_reducible first | exact HB.out | apply below_alloc | apply pw_below_drewN | apply below_drew1) | exact HB.out)⟩⟩
            · rw [if_neg c13] at H
              have c13b0 : decide (0 < a2) = false := decide_eq_false c13
              clear c13
              have H' := Aside0.mk H
              clear H
              go_wp2
              go_roundg k1
              case measure => have := HK1.out; omega
              case rel => exact ⟨(x7_1), (wrap64 (x8_1 + 1)), (by first | rfl | (simp; done) | (simp [*]; done)), H', ⟨by have := HK1.out; omega⟩, ⟨by (with_reducible repeat (first | apply Kd.R_alloc | apply Kd.R_drewN | apply Kd.R_drew)); exact HO_7.out⟩, ⟨by repeat (first | (with_reducible first | exact HB.out | apply below_alloc | apply pw_below_drewN | apply below_drew1) | exact HB.out)⟩⟩
        · rw [if_neg c5] at H
          have c5b0 : decide (a1 ≤ x8_1) = false := decide_eq_false c5
          clear c5
          have H' := Aside0.mk H
          clear H
          go_wp2
          go_roundg k1
          case measure => have := HK1.out; omega
          case rel => exact ⟨(x7_1), (wrap64 (x8_1 + 1)), (by first | rfl | (simp; done) | (simp [*]; done)), H', ⟨by have := HK1.out; omega⟩, ⟨by (with_reducible repeat (first | apply Kd.R_alloc | apply Kd.R_drewN | apply Kd.R_drew)); exact HO_7.out⟩, ⟨by repeat (first | (with_reducible first | exact HB.out | apply below_alloc | apply pw_below_drewN | apply below_drew1) | exact HB.out)⟩⟩
      · rw [if_neg c4] at H
        have c4b0 : decide (x8_1 ≤ (a0.size : Int)) = false := decide_eq_false c4
        clear c4
        obtain rfl := Option.some.inj H
        have hcv21 := own_string (P := Try.prog) Try.underlying31 Try.underlying5 Try.underlying9 (Kd.own_of_R HO_7.out)
        go_wp2
        go_ret
        exact ⟨by first | rfl | (simp [errW_none, errW_some] <;> rfl) | (simp [*, errW_none, errW_some] <;> rfl), by repeat (first | (with_reducible first | exact HB.out | apply below_alloc | apply pw_below_drewN | apply below_drew1) | exact HB.out)⟩

/-! ### impl_SubText: function 13 -/
mutual
def impl_SubText.j0 : Nat → ByteArray → Int → Int → Int → Int → Bool → Option (ByteArray)
  | 0, _, _, _, _, _, _ => none
  | k + 1, x0, x1, x2, x7, x8, x17 => if x17 = true then (some (⟨#[]⟩ : ByteArray)) else (if x1 < 0 then (impl_SubText.j1 k x0 x1 x2 x7 x8 true) else (impl_SubText.j1 k x0 x1 x2 x7 x8 (decide (x2 ≤ (wrap64 (x7 - x1))))))
def impl_SubText.j1 : Nat → ByteArray → Int → Int → Int → Int → Bool → Option (ByteArray)
  | 0, _, _, _, _, _, _ => none
  | k + 1, x0, x1, x2, x7, x8, x25 => if x25 = true then (if (mx x1 1) ≥ (mn (wrap64 (x7 + 1)) (wrap64 (x1 + x2))) then (some (⟨#[]⟩ : ByteArray)) else (if 0 ≤ (wrap64 ((mx x1 1) - 1)) then (if (wrap64 ((mx x1 1) - 1)) ≤ (wrap64 ((mn (wrap64 (x7 + 1)) (wrap64 (x1 + x2))) - 1)) then (if (wrap64 ((mn (wrap64 (x7 + 1)) (wrap64 (x1 + x2))) - 1)) ≤ (x0.size : Int) then (some (x0.extract ((wrap64 ((mx x1 1) - 1)) : Int).toNat ((wrap64 ((mn (wrap64 (x7 + 1)) (wrap64 (x1 + x2))) - 1)) : Int).toNat)) else (none)) else (none)) else (none))) else (if (mx x1 1) ≥ x8 then (some (⟨#[]⟩ : ByteArray)) else (if 0 ≤ (wrap64 ((mx x1 1) - 1)) then (if (wrap64 ((mx x1 1) - 1)) ≤ (wrap64 (x8 - 1)) then (if (wrap64 (x8 - 1)) ≤ (x0.size : Int) then (some (x0.extract ((wrap64 ((mx x1 1) - 1)) : Int).toNat ((wrap64 (x8 - 1)) : Int).toNat)) else (none)) else (none)) else (none)))
end
def impl_SubText.f (k : Nat) (a0 : ByteArray) (a1 : Int) (a2 : Int) : Option (ByteArray) := if a2 = 9000000000000 then (if (mx a1 1) ≥ (wrap64 ((a0.size : Int) + 1)) then (some (⟨#[]⟩ : ByteArray)) else (if 0 ≤ (wrap64 ((mx a1 1) - 1)) then (if (wrap64 ((mx a1 1) - 1)) ≤ (wrap64 ((wrap64 ((a0.size : Int) + 1)) - 1)) then (if (wrap64 ((wrap64 ((a0.size : Int) + 1)) - 1)) ≤ (a0.size : Int) then (some (a0.extract ((wrap64 ((mx a1 1) - 1)) : Int).toNat ((wrap64 ((wrap64 ((a0.size : Int) + 1)) - 1)) : Int).toNat)) else (none)) else (none)) else (none))) else (if a2 ≤ 0 then (impl_SubText.j0 k a0 a1 a2 (a0.size : Int) (wrap64 ((a0.size : Int) + 1)) true) else (impl_SubText.j0 k a0 a1 a2 (a0.size : Int) (wrap64 ((a0.size : Int) + 1)) (decide (a1 > (a0.size : Int)))))
theorem impl_SubText.mono_l : ∀ k, (∀ y0 y1 y2 y3 y4 y5, LeO (impl_SubText.j0 k y0 y1 y2 y3 y4 y5) (impl_SubText.j0 (k + 1) y0 y1 y2 y3 y4 y5)) ∧ (∀ y0 y1 y2 y3 y4 y5, LeO (impl_SubText.j1 k y0 y1 y2 y3 y4 y5) (impl_SubText.j1 (k + 1) y0 y1 y2 y3 y4 y5))
  | 0 => ⟨fun _ _ _ _ _ _ r h => by simp [impl_SubText.j0] at h, fun _ _ _ _ _ _ r h => by simp [impl_SubText.j1] at h⟩
  | k + 1 => by
    obtain ⟨ih0, ih1⟩ := impl_SubText.mono_l k
    refine ⟨?_, ?_⟩
    · intro y0 y1 y2 y3 y4 y5
      unfold impl_SubText.j0
      repeat' first
      | (with_reducible exact ih0 _ _ _ _ _ _)
      | (with_reducible exact ih1 _ _ _ _ _ _)
      | (with_reducible exact LeO.refl _)
      | (with_reducible exact LeO.none _)
      | (with_reducible refine LeO.ite ?_ ?_)
      | (with_reducible refine LeO.bind ?_ (fun _ => ?_))
      | exact ih0 _ _ _ _ _ _
      | exact ih1 _ _ _ _ _ _
      | exact LeO.none _
      | refine LeO.ite ?_ ?_
      | refine LeO.bind ?_ (fun _ => ?_)
    · intro y0 y1 y2 y3 y4 y5
      unfold impl_SubText.j1
      repeat' first
      | (with_reducible exact ih0 _ _ _ _ _ _)
      | (with_reducible exact ih1 _ _ _ _ _ _)
      | (with_reducible exact LeO.refl _)
      | (with_reducible exact LeO.none _)
      | (with_reducible refine LeO.ite ?_ ?_)
      | (with_reducible refine LeO.bind ?_ (fun _ => ?_))
      | exact ih0 _ _ _ _ _ _
      | exact ih1 _ _ _ _ _ _
      | exact LeO.none _
      | refine LeO.ite ?_ ?_
      | refine LeO.bind ?_ (fun _ => ?_)
theorem impl_SubText.mono : ∀ a0 a1 a2 k, LeO (impl_SubText.f k a0 a1 a2) (impl_SubText.f (k + 1) a0 a1 a2) := by
  intro a0 a1 a2 k
  obtain ⟨ih0, ih1⟩ := impl_SubText.mono_l k
  unfold impl_SubText.f
  repeat' first
      | (with_reducible exact ih0 _ _ _ _ _ _)
      | (with_reducible exact ih1 _ _ _ _ _ _)
      | (with_reducible exact LeO.refl _)
      | (with_reducible exact LeO.none _)
      | (with_reducible refine LeO.ite ?_ ?_)
      | (with_reducible refine LeO.bind ?_ (fun _ => ?_))
      | exact ih0 _ _ _ _ _ _
      | exact ih1 _ _ _ _ _ _
      | exact LeO.none _
      | refine LeO.ite ?_ ?_
      | refine LeO.bind ?_ (fun _ => ?_)
set_option maxHeartbeats 8000000 in
set_option maxRecDepth 100000 in
theorem impl_SubText.calls (k : Nat) (a0 : ByteArray) (a1 : Int) (a2 : Int) (r : ByteArray) (w : World) (h : impl_SubText.f k a0 a1 a2 = some r) :
    Calls Try.prog 13 #[.string a0, .int .i64 a1, .int .i64 a2] w fun e w' => e = .returned (.string r) ∧ Below w.heap.size w w' := by
  have HB := Aside0.mk (Below.refl w.heap.size w)
  have H : (if a2 = 9000000000000 then (if (mx a1 1) ≥ (wrap64 ((a0.size : Int) + 1)) then (some (⟨#[]⟩ : ByteArray)) else (if 0 ≤ (wrap64 ((mx a1 1) - 1)) then (if (wrap64 ((mx a1 1) - 1)) ≤ (wrap64 ((wrap64 ((a0.size : Int) + 1)) - 1)) then (if (wrap64 ((wrap64 ((a0.size : Int) + 1)) - 1)) ≤ (a0.size : Int) then (some (a0.extract ((wrap64 ((mx a1 1) - 1)) : Int).toNat ((wrap64 ((wrap64 ((a0.size : Int) + 1)) - 1)) : Int).toNat)) else (none)) else (none)) else (none))) else (if a2 ≤ 0 then (impl_SubText.j0 k a0 a1 a2 (a0.size : Int) (wrap64 ((a0.size : Int) + 1)) true) else (impl_SubText.j0 k a0 a1 a2 (a0.size : Int) (wrap64 ((a0.size : Int) + 1)) (decide (a1 > (a0.size : Int)))))) = some r := h
  clear h
  by_cases c4 : a2 = 9000000000000
  · rw [if_pos c4] at H
    have c4b0 : (a2 == 9000000000000) = true := beq_iff_eq.mpr c4
    have c4b1 : (a2 != 9000000000000) = false := bne_eq_false_iff_eq.mpr c4
    clear c4
    obtain ⟨ji5, hji5⟩ : ∃ j_ : Int, (mx a1 1) = j_ := ⟨_, rfl⟩
    replace H : (if (ji5) ≥ (wrap64 ((a0.size : Int) + 1)) then (some (⟨#[]⟩ : ByteArray)) else (if 0 ≤ (wrap64 ((ji5) - 1)) then (if (wrap64 ((ji5) - 1)) ≤ (wrap64 ((wrap64 ((a0.size : Int) + 1)) - 1)) then (if (wrap64 ((wrap64 ((a0.size : Int) + 1)) - 1)) ≤ (a0.size : Int) then (some (a0.extract ((wrap64 ((ji5) - 1)) : Int).toNat ((wrap64 ((wrap64 ((a0.size : Int) + 1)) - 1)) : Int).toNat)) else (none)) else (none)) else (none))) = some r := by first | (rw [hji5] at H; exact H) | (simp only [hji5] at H ⊢; exact H)
    (try (have hji5l : 1 ≤ ji5 := by (rw [← hji5]; unfold mx; (repeat' split) <;> omega)))
    (try (have hji5m : 0 ≤ ji5 := by omega))
    have hji5_ : (if a1 < 1 then 1 else a1) = ji5 := hji5
    by_cases c6 : (ji5) ≥ (wrap64 ((a0.size : Int) + 1))
    · rw [if_pos c6] at H
      have c6b0 : decide ((wrap64 ((a0.size : Int) + 1)) ≤ (ji5)) = true := decide_eq_true c6
      clear c6
      obtain rfl := Option.some.inj H
      go_enter Try.func13, Try.ntmps13
      go_wp2
      go_ret
      exact ⟨by first | rfl | (simp [errW_none, errW_some] <;> rfl) | (simp only [← hji5]; first | rfl | (simp [errW_none, errW_some] <;> rfl)) | (simp [*, errW_none, errW_some] <;> rfl), by repeat (first | (with_reducible first | exact HB.out | apply below_alloc | apply pw_below_drewN | apply below_drew1) | exact HB.out)⟩
    · rw [if_neg c6] at H
      have c6b0 : decide ((wrap64 ((a0.size : Int) + 1)) ≤ (ji5)) = false := decide_eq_false c6
      clear c6
      obtain ⟨ji7, hji7⟩ : ∃ j_ : Int, (wrap64 ((ji5) - 1)) = j_ := ⟨_, rfl⟩
      replace H : (if 0 ≤ (ji7) then (if (ji7) ≤ (wrap64 ((wrap64 ((a0.size : Int) + 1)) - 1)) then (if (wrap64 ((wrap64 ((a0.size : Int) + 1)) - 1)) ≤ (a0.size : Int) then (some (a0.extract ((ji7) : Int).toNat ((wrap64 ((wrap64 ((a0.size : Int) + 1)) - 1)) : Int).toNat)) else (none)) else (none)) else (none)) = some r := by first | (rw [hji7] at H; exact H) | (simp only [hji7] at H ⊢; exact H)
      have hji7w : (IntKind.i64.wrap ((ji5) - 1)) = ji7 := (i64_w _).trans hji7
      by_cases c8 : 0 ≤ (ji7)
      · rw [if_pos c8] at H
        have c8b0 := eq_true c8
        have c8b1 : decide (0 ≤ (ji7)) = true := decide_eq_true c8
        clear c8
        by_cases c9 : (ji7) ≤ (wrap64 ((wrap64 ((a0.size : Int) + 1)) - 1))
        · rw [if_pos c9] at H
          have c9b0 := eq_true c9
          have c9b1 : decide ((ji7) ≤ (wrap64 ((wrap64 ((a0.size : Int) + 1)) - 1))) = true := decide_eq_true c9
          by_cases c10 : (wrap64 ((wrap64 ((a0.size : Int) + 1)) - 1)) ≤ (a0.size : Int)
          · rw [if_pos c10] at H
            have c10b0 := eq_true c10
            have c10b1 : decide ((wrap64 ((wrap64 ((a0.size : Int) + 1)) - 1)) ≤ (a0.size : Int)) = true := decide_eq_true c10
            obtain rfl := Option.some.inj H
            go_enter Try.func13, Try.ntmps13
            go_wp2
            go_ret
            exact ⟨by first | rfl | (simp [errW_none, errW_some] <;> rfl) | (simp only [← hji5, ← hji7]; first | rfl | (simp [errW_none, errW_some] <;> rfl)) | (simp [*, errW_none, errW_some] <;> rfl), by repeat (first | (with_reducible first | exact HB.out | apply below_alloc | apply pw_below_drewN | apply below_drew1) | exact HB.out)⟩
          · rw [if_neg c10] at H
            exact absurd H (by simp)
        · rw [if_neg c9] at H
          exact absurd H (by simp)
      · rw [if_neg c8] at H
        exact absurd H (by simp)
  · rw [if_neg c4] at H
    have c4b0 : (a2 == 9000000000000) = false := beq_eq_false_iff_ne.mpr c4
    have c4b1 : (a2 != 9000000000000) = true := bne_iff_ne.mpr c4
    have HC11 := Aside0.mk H
    clear H
    go_enter Try.func13, Try.ntmps13
    go_upto_region 4 with (fail)
    go_cut [17] (fun v17 wc => ∃ (kq : Nat) (x17_10 : Bool), v17 = .bool x17_10 ∧ Aside0 (impl_SubText.j0 kq a0 a1 a2 (a0.size : Int) (wrap64 ((a0.size : Int) + 1)) x17_10 = some r) ∧ Aside0 (kq ≤ k) ∧ Aside0 (Below w.heap.size w wc))
    case first =>
      have H := HC11.out
      clear HC11
      by_cases c12 : a2 ≤ 0
      · rw [if_pos c12] at H
        have c12b0 : decide (a2 ≤ 0) = true := decide_eq_true c12
        clear c12
        (first | rw [c12b0] | (simp only [i64_w, i32_w]; rw [c12b0]) | skip)
        have H' := Aside0.mk H
        clear H
        go_wp2
        go_meet
        case rel => exact ⟨_, (true), (by first | rfl | (simp; done) | (simp [*]; done)), H', ⟨by first | omega | exact Nat.le_refl _⟩, ⟨by repeat (first | (with_reducible first | exact HB.out | apply below_alloc | apply pw_below_drewN | apply below_drew1) | exact HB.out)⟩⟩
      · rw [if_neg c12] at H
        have c12b0 : decide (a2 ≤ 0) = false := decide_eq_false c12
        clear c12
        (first | rw [c12b0] | (simp only [i64_w, i32_w]; rw [c12b0]) | skip)
        have H' := Aside0.mk H
        clear H
        go_wp2
        go_meet
        case rel => exact ⟨_, (decide (a1 > (a0.size : Int))), (by first | rfl | (simp; done) | (simp [*]; done)), H', ⟨by first | omega | exact Nat.le_refl _⟩, ⟨by repeat (first | (with_reducible first | exact HB.out | apply below_alloc | apply pw_below_drewN | apply below_drew1) | exact HB.out)⟩⟩
    case rest =>
      clear HC11
      try clear c1
      try clear p2
      try clear c4
      try clear c4b0
      try clear c4b1
      try clear c6
      try clear c6b0
      try clear p6
      try clear c8
      try clear c8b0
      try clear c8b1
      try clear c9
      try clear c9b0
      try clear c9b1
      try clear c10
      try clear c10b0
      try clear c10b1
      try clear c12
      try clear c12b0
      obtain ⟨kq, x17_10, rfl, HA, HJ10, HB⟩ := hcut
      cases kq with
      | zero => exact absurd HA.out (by simp [impl_SubText.j0])
      | succ kj10 =>
        have H := HA.out
        clear HA
        simp only [impl_SubText.j0] at H
        by_cases c13 : x17_10 = true
        · subst c13
          have H1 : (some (⟨#[]⟩ : ByteArray)) = some r := by rw [if_pos rfl] at H; exact H
          clear H
          have H := H1
          clear H1
          obtain rfl := Option.some.inj H
          go_wp2
          go_ret
          exact ⟨by first | rfl | (simp [errW_none, errW_some] <;> rfl) | (simp [*, errW_none, errW_some] <;> rfl), by repeat (first | (with_reducible first | exact HB.out | apply below_alloc | apply pw_below_drewN | apply below_drew1) | exact HB.out)⟩
        · replace c13 := Bool.eq_false_iff.mpr c13
          subst c13
          have H1 : (if a1 < 0 then (impl_SubText.j1 kj10 a0 a1 a2 (a0.size : Int) (wrap64 ((a0.size : Int) + 1)) true) else (impl_SubText.j1 kj10 a0 a1 a2 (a0.size : Int) (wrap64 ((a0.size : Int) + 1)) (decide (a2 ≤ (wrap64 ((a0.size : Int) - a1)))))) = some r := by rw [if_neg (show ¬ (false = true) by decide)] at H; exact H
          clear H
          have H := H1
          clear H1
          have HC14 := Aside0.mk H
          clear H
          go_upto_region 6 with (fail)
          go_cut [25] (fun v25 wc => ∃ (kq : Nat) (x25_13 : Bool), v25 = .bool x25_13 ∧ Aside0 (impl_SubText.j1 kq a0 a1 a2 (a0.size : Int) (wrap64 ((a0.size : Int) + 1)) x25_13 = some r) ∧ Aside0 (kq ≤ kj10) ∧ Aside0 (Below w.heap.size w wc))
          case first =>
            have H := HC14.out
            clear HC14
            by_cases c15 : a1 < 0
            · rw [if_pos c15] at H
              have c15b0 : decide (a1 < 0) = true := decide_eq_true c15
              clear c15
              (first | rw [c15b0] | (simp only [i64_w, i32_w]; rw [c15b0]) | skip)
              have H' := Aside0.mk H
              clear H
              go_wp2
              go_meet
              case rel => exact ⟨_, (true), (by first | rfl | (simp; done) | (simp [*]; done)), H', ⟨by have := HJ10.out; first | omega | exact Nat.le_refl _⟩, ⟨by repeat (first | (with_reducible first | exact HB.out | apply below_alloc | apply pw_below_drewN | apply below_drew1) | exact HB.out)⟩⟩
            · rw [if_neg c15] at H
              have c15b0 : decide (a1 < 0) = false := decide_eq_false c15
              clear c15
              (first | rw [c15b0] | (simp only [i64_w, i32_w]; rw [c15b0]) | skip)
              have H' := Aside0.mk H
              clear H
              go_wp2
              go_meet
              case rel => exact ⟨_, (decide (a2 ≤ (wrap64 ((a0.size : Int) - a1)))), (by first | rfl | (simp; done) | (simp [*]; done)), H', ⟨by have := HJ10.out; first | omega | exact Nat.le_refl _⟩, ⟨by repeat (first | (with_reducible first | exact HB.out | apply below_alloc | apply pw_below_drewN | apply below_drew1) | exact HB.out)⟩⟩
          case rest =>
            clear HC14
            try clear c1
            try clear p2
            try clear c4
            try clear c4b0
            try clear c4b1
            try clear c6
            try clear c6b0
            try clear p6
            try clear c8
            try clear c8b0
            try clear c8b1
            try clear c9
            try clear c9b0
            try clear c9b1
            try clear c10
            try clear c10b0
            try clear c10b1
            try clear c12
            try clear c12b0
            try clear c13
            try clear c15
            try clear c15b0
            try clear p2
            try clear p6
            obtain ⟨kq, x25_13, rfl, HA, HJ13, HB⟩ := hcut
            cases kq with
            | zero => exact absurd HA.out (by simp [impl_SubText.j1])
            | succ kj13 =>
              have H := HA.out
              clear HA
              simp only [impl_SubText.j1] at H
              by_cases c16 : x25_13 = true
              · subst c16
                have H1 : (if (mx a1 1) ≥ (mn (wrap64 ((a0.size : Int) + 1)) (wrap64 (a1 + a2))) then (some (⟨#[]⟩ : ByteArray)) else (if 0 ≤ (wrap64 ((mx a1 1) - 1)) then (if (wrap64 ((mx a1 1) - 1)) ≤ (wrap64 ((mn (wrap64 ((a0.size : Int) + 1)) (wrap64 (a1 + a2))) - 1)) then (if (wrap64 ((mn (wrap64 ((a0.size : Int) + 1)) (wrap64 (a1 + a2))) - 1)) ≤ (a0.size : Int) then (some (a0.extract ((wrap64 ((mx a1 1) - 1)) : Int).toNat ((wrap64 ((mn (wrap64 ((a0.size : Int) + 1)) (wrap64 (a1 + a2))) - 1)) : Int).toNat)) else (none)) else (none)) else (none))) = some r := by rw [if_pos rfl] at H; exact H
                clear H
                have H := H1
                clear H1
                obtain ⟨ji17, hji17⟩ : ∃ j_ : Int, (mn (wrap64 ((a0.size : Int) + 1)) (wrap64 (a1 + a2))) = j_ := ⟨_, rfl⟩
                replace H : (if (mx a1 1) ≥ (ji17) then (some (⟨#[]⟩ : ByteArray)) else (if 0 ≤ (wrap64 ((mx a1 1) - 1)) then (if (wrap64 ((mx a1 1) - 1)) ≤ (wrap64 ((ji17) - 1)) then (if (wrap64 ((ji17) - 1)) ≤ (a0.size : Int) then (some (a0.extract ((wrap64 ((mx a1 1) - 1)) : Int).toNat ((wrap64 ((ji17) - 1)) : Int).toNat)) else (none)) else (none)) else (none))) = some r := by first | (rw [hji17] at H; exact H) | (simp only [hji17] at H ⊢; exact H)
                have hji17_ : (if (wrap64 (a1 + a2)) < (wrap64 ((a0.size : Int) + 1)) then (wrap64 (a1 + a2)) else (wrap64 ((a0.size : Int) + 1))) = ji17 := hji17
                obtain ⟨ji18, hji18⟩ : ∃ j_ : Int, (mx a1 1) = j_ := ⟨_, rfl⟩
                replace H : (if (ji18) ≥ (ji17) then (some (⟨#[]⟩ : ByteArray)) else (if 0 ≤ (wrap64 ((ji18) - 1)) then (if (wrap64 ((ji18) - 1)) ≤ (wrap64 ((ji17) - 1)) then (if (wrap64 ((ji17) - 1)) ≤ (a0.size : Int) then (some (a0.extract ((wrap64 ((ji18) - 1)) : Int).toNat ((wrap64 ((ji17) - 1)) : Int).toNat)) else (none)) else (none)) else (none))) = some r := by first | (rw [hji18] at H; exact H) | (simp only [hji18] at H ⊢; exact H)
                (try (have hji18l : 1 ≤ ji18 := by (rw [← hji18]; unfold mx; (repeat' split) <;> omega)))
                (try (have hji18m : 0 ≤ ji18 := by omega))
                have hji18_ : (if a1 < 1 then 1 else a1) = ji18 := hji18
                by_cases c19 : (ji18) ≥ (ji17)
                · rw [if_pos c19] at H
                  have c19b0 : decide ((ji17) ≤ (ji18)) = true := decide_eq_true c19
                  clear c19
                  obtain rfl := Option.some.inj H
                  go_wp2
                  go_ret
                  exact ⟨by first | rfl | (simp [errW_none, errW_some] <;> rfl) | (simp only [← hji17, ← hji18]; first | rfl | (simp [errW_none, errW_some] <;> rfl)) | (simp [*, errW_none, errW_some] <;> rfl), by repeat (first | (with_reducible first | exact HB.out | apply below_alloc | apply pw_below_drewN | apply below_drew1) | exact HB.out)⟩
                · rw [if_neg c19] at H
                  have c19b0 : decide ((ji17) ≤ (ji18)) = false := decide_eq_false c19
                  clear c19
                  obtain ⟨ji20, hji20⟩ : ∃ j_ : Int, (wrap64 ((ji18) - 1)) = j_ := ⟨_, rfl⟩
                  replace H : (if 0 ≤ (ji20) then (if (ji20) ≤ (wrap64 ((ji17) - 1)) then (if (wrap64 ((ji17) - 1)) ≤ (a0.size : Int) then (some (a0.extract ((ji20) : Int).toNat ((wrap64 ((ji17) - 1)) : Int).toNat)) else (none)) else (none)) else (none)) = some r := by first | (rw [hji20] at H; exact H) | (simp only [hji20] at H ⊢; exact H)
                  have hji20w : (IntKind.i64.wrap ((ji18) - 1)) = ji20 := (i64_w _).trans hji20
                  by_cases c21 : 0 ≤ (ji20)
                  · rw [if_pos c21] at H
                    have c21b0 := eq_true c21
                    have c21b1 : decide (0 ≤ (ji20)) = true := decide_eq_true c21
                    clear c21
                    by_cases c22 : (ji20) ≤ (wrap64 ((ji17) - 1))
                    · rw [if_pos c22] at H
                      have c22b0 := eq_true c22
                      have c22b1 : decide ((ji20) ≤ (wrap64 ((ji17) - 1))) = true := decide_eq_true c22
                      clear c22
                      by_cases c23 : (wrap64 ((ji17) - 1)) ≤ (a0.size : Int)
                      · rw [if_pos c23] at H
                        have c23b0 := eq_true c23
                        have c23b1 : decide ((wrap64 ((ji17) - 1)) ≤ (a0.size : Int)) = true := decide_eq_true c23
                        clear c23
                        obtain rfl := Option.some.inj H
                        go_wp2
                        go_ret
                        exact ⟨by first | rfl | (simp [errW_none, errW_some] <;> rfl) | (simp only [← hji17, ← hji18, ← hji20]; first | rfl | (simp [errW_none, errW_some] <;> rfl)) | (simp [*, errW_none, errW_some] <;> rfl), by repeat (first | (with_reducible first | exact HB.out | apply below_alloc | apply pw_below_drewN | apply below_drew1) | exact HB.out)⟩
                      · rw [if_neg c23] at H
                        exact absurd H (by simp)
                    · rw [if_neg c22] at H
                      exact absurd H (by simp)
                  · rw [if_neg c21] at H
                    exact absurd H (by simp)
              · replace c16 := Bool.eq_false_iff.mpr c16
                subst c16
                have H1 : (if (mx a1 1) ≥ (wrap64 ((a0.size : Int) + 1)) then (some (⟨#[]⟩ : ByteArray)) else (if 0 ≤ (wrap64 ((mx a1 1) - 1)) then (if (wrap64 ((mx a1 1) - 1)) ≤ (wrap64 ((wrap64 ((a0.size : Int) + 1)) - 1)) then (if (wrap64 ((wrap64 ((a0.size : Int) + 1)) - 1)) ≤ (a0.size : Int) then (some (a0.extract ((wrap64 ((mx a1 1) - 1)) : Int).toNat ((wrap64 ((wrap64 ((a0.size : Int) + 1)) - 1)) : Int).toNat)) else (none)) else (none)) else (none))) = some r := by rw [if_neg (show ¬ (false = true) by decide)] at H; exact H
                clear H
                have H := H1
                clear H1
                obtain ⟨ji24, hji24⟩ : ∃ j_ : Int, (mx a1 1) = j_ := ⟨_, rfl⟩
                replace H : (if (ji24) ≥ (wrap64 ((a0.size : Int) + 1)) then (some (⟨#[]⟩ : ByteArray)) else (if 0 ≤ (wrap64 ((ji24) - 1)) then (if (wrap64 ((ji24) - 1)) ≤ (wrap64 ((wrap64 ((a0.size : Int) + 1)) - 1)) then (if (wrap64 ((wrap64 ((a0.size : Int) + 1)) - 1)) ≤ (a0.size : Int) then (some (a0.extract ((wrap64 ((ji24) - 1)) : Int).toNat ((wrap64 ((wrap64 ((a0.size : Int) + 1)) - 1)) : Int).toNat)) else (none)) else (none)) else (none))) = some r := by first | (rw [hji24] at H; exact H) | (simp only [hji24] at H ⊢; exact H)
                (try (have hji24l : 1 ≤ ji24 := by (rw [← hji24]; unfold mx; (repeat' split) <;> omega)))
                (try (have hji24m : 0 ≤ ji24 := by omega))
                have hji24_ : (if a1 < 1 then 1 else a1) = ji24 := hji24
                by_cases c25 : (ji24) ≥ (wrap64 ((a0.size : Int) + 1))
                · rw [if_pos c25] at H
                  have c25b0 : decide ((wrap64 ((a0.size : Int) + 1)) ≤ (ji24)) = true := decide_eq_true c25
                  clear c25
                  obtain rfl := Option.some.inj H
                  go_wp2
                  go_ret
                  exact ⟨by first | rfl | (simp [errW_none, errW_some] <;> rfl) | (simp only [← hji24]; first | rfl | (simp [errW_none, errW_some] <;> rfl)) | (simp [*, errW_none, errW_some] <;> rfl), by repeat (first | (with_reducible first | exact HB.out | apply below_alloc | apply pw_below_drewN | apply below_drew1) | exact HB.out)⟩
                · rw [if_neg c25] at H
                  have c25b0 : decide ((wrap64 ((a0.size : Int) + 1)) ≤ (ji24)) = false := decide_eq_false c25
                  clear c25
                  obtain ⟨ji26, hji26⟩ : ∃ j_ : Int, (wrap64 ((ji24) - 1)) = j_ := ⟨_, rfl⟩
                  replace H : (if 0 ≤ (ji26) then (if (ji26) ≤ (wrap64 ((wrap64 ((a0.size : Int) + 1)) - 1)) then (if (wrap64 ((wrap64 ((a0.size : Int) + 1)) - 1)) ≤ (a0.size : Int) then (some (a0.extract ((ji26) : Int).toNat ((wrap64 ((wrap64 ((a0.size : Int) + 1)) - 1)) : Int).toNat)) else (none)) else (none)) else (none)) = some r := by first | (rw [hji26] at H; exact H) | (simp only [hji26] at H ⊢; exact H)
                  have hji26w : (IntKind.i64.wrap ((ji24) - 1)) = ji26 := (i64_w _).trans hji26
                  by_cases c27 : 0 ≤ (ji26)
                  · rw [if_pos c27] at H
                    have c27b0 := eq_true c27
                    have c27b1 : decide (0 ≤ (ji26)) = true := decide_eq_true c27
                    clear c27
                    by_cases c28 : (ji26) ≤ (wrap64 ((wrap64 ((a0.size : Int) + 1)) - 1))
                    · rw [if_pos c28] at H
                      have c28b0 := eq_true c28
                      have c28b1 : decide ((ji26) ≤ (wrap64 ((wrap64 ((a0.size : Int) + 1)) - 1))) = true := decide_eq_true c28
                      by_cases c29 : (wrap64 ((wrap64 ((a0.size : Int) + 1)) - 1)) ≤ (a0.size : Int)
                      · rw [if_pos c29] at H
                        have c29b0 := eq_true c29
                        have c29b1 : decide ((wrap64 ((wrap64 ((a0.size : Int) + 1)) - 1)) ≤ (a0.size : Int)) = true := decide_eq_true c29
                        obtain rfl := Option.some.inj H
                        go_wp2
                        go_ret
                        exact ⟨by first | rfl | (simp [errW_none, errW_some] <;> rfl) | (simp only [← hji24, ← hji26]; first | rfl | (simp [errW_none, errW_some] <;> rfl)) | (simp [*, errW_none, errW_some] <;> rfl), by repeat (first | (with_reducible first | exact HB.out | apply below_alloc | apply pw_below_drewN | apply below_drew1) | exact HB.out)⟩
                      · rw [if_neg c29] at H
                        exact absurd H (by simp)
                    · rw [if_neg c28] at H
                      exact absurd H (by simp)
                  · rw [if_neg c27] at H
                    exact absurd H (by simp)

/-! ### laws_FnExactSubText: function 5 -/
def laws_FnExactSubText.f (k : Nat) (a0 : ByteArray) (a1 : Int) (a2 : Int) : Option (Bool) := if (a0.size : Int) > 1048576 then (some true) else ((spec_SubText.f k a0 a1 a2).bind fun t107 => ((impl_SubText.f k a0 a1 a2).bind fun t108 => (if t108.toList = t107.toList then (some true) else (some false))))
theorem laws_FnExactSubText.mono : ∀ a0 a1 a2 k, LeO (laws_FnExactSubText.f k a0 a1 a2) (laws_FnExactSubText.f (k + 1) a0 a1 a2) := by
  intro a0 a1 a2 k
  unfold laws_FnExactSubText.f
  repeat' first
      | (with_reducible exact impl_SubText.mono _ _ _ _)
      | (with_reducible exact spec_SubText.mono _ _ _ _)
      | (with_reducible exact LeO.refl _)
      | (with_reducible exact LeO.none _)
      | (with_reducible refine LeO.ite ?_ ?_)
      | (with_reducible refine LeO.bind ?_ (fun _ => ?_))
      | exact impl_SubText.mono _ _ _ _
      | exact spec_SubText.mono _ _ _ _
      | exact LeO.none _
      | refine LeO.ite ?_ ?_
      | refine LeO.bind ?_ (fun _ => ?_)
set_option maxHeartbeats 8000000 in
set_option maxRecDepth 100000 in
theorem laws_FnExactSubText.calls (k : Nat) (a0 : ByteArray) (a1 : Int) (a2 : Int) (r : Bool) (w : World) (h : laws_FnExactSubText.f k a0 a1 a2 = some r) :
    Calls Try.prog 5 #[.string a0, .int .i64 a1, .int .i64 a2] w fun e w' => e = .returned (.bool r) ∧ Below w.heap.size w w' := by
  have HB := Aside0.mk (Below.refl w.heap.size w)
  have H : (if (a0.size : Int) > 1048576 then (some true) else ((spec_SubText.f k a0 a1 a2).bind fun t107 => ((impl_SubText.f k a0 a1 a2).bind fun t108 => (if t108.toList = t107.toList then (some true) else (some false))))) = some r := h
  clear h
  by_cases c4 : (a0.size : Int) > 1048576
  · rw [if_pos c4] at H
    have c4b0 : decide (1048576 < (a0.size : Int)) = true := decide_eq_true c4
    have c4b1 : decide (1048576 < a0.size) = true := decide_eq_true (by omega)
    clear c4
    obtain rfl := Option.some.inj H
    go_enter Try.func5, Try.ntmps5
    go_wp2
    go_ret
    exact ⟨by first | rfl | (simp [errW_none, errW_some] <;> rfl) | (simp [*, errW_none, errW_some] <;> rfl), by repeat (first | (with_reducible first | exact HB.out | apply below_alloc | apply pw_below_drewN | apply below_drew1) | exact HB.out)⟩
  · rw [if_neg c4] at H
    have c4b0 : decide (1048576 < (a0.size : Int)) = false := decide_eq_false c4
    have c4b1 : decide (1048576 < a0.size) = false := decide_eq_false (by omega)
    clear c4
    replace H := Option.bind_eq_some_iff.mp H
    obtain ⟨t107, A50, H⟩ := H
    replace H : ((impl_SubText.f k a0 a1 a2).bind fun t108 => (if t108.toList = t107.toList then (some true) else (some false))) = some r := H
    have A5 := Aside0.mk A50
    clear A50
    replace H := Option.bind_eq_some_iff.mp H
    obtain ⟨t108, A60, H⟩ := H
    replace H : (if t108.toList = t107.toList then (some true) else (some false)) = some r := H
    have A6 := Aside0.mk A60
    clear A60
    by_cases c7 : t108.toList = t107.toList
    · rw [if_pos c7] at H
      have c7b0 : (t108.toList == t107.toList) = true := beq_iff_eq.mpr c7
      have c7b1 : (t108.toList != t107.toList) = false := bne_eq_false_iff_eq.mpr c7
      clear c7
      obtain rfl := Option.some.inj H
      go_enter Try.func5, Try.ntmps5
      go_wp2_with (first | ((with_reducible refine gate_callee (f := 12) rfl ?_); refine goesL_ (some 15) rfl rfl Try.func12 (by kernel_rfl) rfl #[.string a0, .int .i64 a1, .int .i64 a2] rfl (by (try simp only [List.map_toArray, List.map_cons, List.map_nil]); first | done | rfl | (simp only [List.length_drop, List.length_take]; rfl)) ?_; (with_reducible refine (spec_SubText.calls k a0 a1 a2 t107 _ A5.out).mono ?_); rintro e w8 ⟨rfl, hb⟩; refine ⟨_, rfl, ?_⟩; have n0_ := Aside0.mk (below_step (by repeat (first | (with_reducible first | exact HB.out | apply below_alloc | apply pw_below_drewN | apply below_drew1) | exact HB.out)) hb); clear HB; have HB := n0_; clear n0_; (try clear hb); (try clear hb2); (try clear hk); (try clear hi)) | ((with_reducible refine gate_callee (f := 13) rfl ?_); refine goesL_ (some 19) rfl rfl Try.func13 (by kernel_rfl) rfl #[.string a0, .int .i64 a1, .int .i64 a2] rfl (by (try simp only [List.map_toArray, List.map_cons, List.map_nil]); first | done | rfl | (simp only [List.length_drop, List.length_take]; rfl)) ?_; (with_reducible refine (impl_SubText.calls k a0 a1 a2 t108 _ A6.out).mono ?_); rintro e w9 ⟨rfl, hb⟩; refine ⟨_, rfl, ?_⟩; have n0_ := Aside0.mk (below_step (by repeat (first | (with_reducible first | exact HB.out | apply below_alloc | apply pw_below_drewN | apply below_drew1) | exact HB.out)) hb); clear HB; have HB := n0_; clear n0_; (try clear hb); (try clear hb2); (try clear hk); (try clear hi)))
      go_ret
      exact ⟨by first | rfl | (simp [errW_none, errW_some] <;> rfl) | (simp [*, errW_none, errW_some] <;> rfl), by repeat (first | (with_reducible first | exact HB.out | apply below_alloc | apply pw_below_drewN | apply below_drew1) | exact HB.out)⟩
    · rw [if_neg c7] at H
      have c7b0 : (t108.toList == t107.toList) = false := beq_eq_false_iff_ne.mpr c7
      have c7b1 : (t108.toList != t107.toList) = true := bne_iff_ne.mpr c7
      obtain rfl := Option.some.inj H
      go_enter Try.func5, Try.ntmps5
      go_wp2_with (first | ((with_reducible refine gate_callee (f := 12) rfl ?_); refine goesL_ (some 15) rfl rfl Try.func12 (by kernel_rfl) rfl #[.string a0, .int .i64 a1, .int .i64 a2] rfl (by (try simp only [List.map_toArray, List.map_cons, List.map_nil]); first | done | rfl | (simp only [List.length_drop, List.length_take]; rfl)) ?_; (with_reducible refine (spec_SubText.calls k a0 a1 a2 t107 _ A5.out).mono ?_); rintro e w10 ⟨rfl, hb⟩; refine ⟨_, rfl, ?_⟩; have n0_ := Aside0.mk (below_step (by repeat (first | (with_reducible first | exact HB.out | apply below_alloc | apply pw_below_drewN | apply below_drew1) | exact HB.out)) hb); clear HB; have HB := n0_; clear n0_; (try clear hb); (try clear hb2); (try clear hk); (try clear hi)) | ((with_reducible refine gate_callee (f := 13) rfl ?_); refine goesL_ (some 19) rfl rfl Try.func13 (by kernel_rfl) rfl #[.string a0, .int .i64 a1, .int .i64 a2] rfl (by (try simp only [List.map_toArray, List.map_cons, List.map_nil]); first | done | rfl | (simp only [List.length_drop, List.length_take]; rfl)) ?_; (with_reducible refine (impl_SubText.calls k a0 a1 a2 t108 _ A6.out).mono ?_); rintro e w11 ⟨rfl, hb⟩; refine ⟨_, rfl, ?_⟩; have n0_ := Aside0.mk (below_step (by repeat (first | (with_reducible first | exact HB.out | apply below_alloc | apply pw_below_drewN | apply below_drew1) | exact HB.out)) hb); clear HB; have HB := n0_; clear n0_; (try clear hb); (try clear hb2); (try clear hk); (try clear hi)))
      go_ret
      exact ⟨by first | rfl | (simp [errW_none, errW_some] <;> rfl) | (simp [*, errW_none, errW_some] <;> rfl), by repeat (first | (with_reducible first | exact HB.out | apply below_alloc | apply pw_below_drewN | apply below_drew1) | exact HB.out)⟩

/-- THE ONE PURE STATEMENT of laws_FnExactSubText: yours. -/
def laws_FnExactSubText.Pure : Prop := ∀ (a0 : ByteArray) (a1 : Int) (a2 : Int), a0.size ≤ 140737488351232 → (Lit.int .i64 a1).wf = true → (Lit.int .i64 a2).wf = true → ∃ k, laws_FnExactSubText.f k a0 a1 a2 = some true
theorem laws_FnExactSubText.walk (P : laws_FnExactSubText.Pure) (a0 : ByteArray) (a1 : Int) (a2 : Int) (w : World) (w0 : a0.size ≤ 140737488351232) (w1 : (Lit.int .i64 a1).wf = true) (w2 : (Lit.int .i64 a2).wf = true) :
    Calls Try.prog 5 #[.string a0, .int .i64 a1, .int .i64 a2] w fun e w' => e = .returned (.bool true) ∧ Below w.heap.size w w' := by
  obtain ⟨k, h⟩ := P a0 a1 a2 w0 w1 w2
  refine (laws_FnExactSubText.calls k a0 a1 a2 true w h).mono ?_
  rintro e w' ⟨rfl, hd⟩
  exact ⟨rfl, hd⟩

end Go.Proofs.Ytbaiaflphdkecab.PFnExactSubText
