-- XPRINTED: written by a program of this session (wip/xprint), which turns the kit's print
import Derived.Test.YtmddcohelcciaacDoorPFnExactLexx0
import Derived.Test.YtmddcohelcciaacDoorPFnExactLexx1
namespace Go.Proofs.YtmddcohelcciaacDoor.PFnExactLex
open Go.RowKit Go.Proofs.YtmddcohelcciaacDoorW.PrintWords Go.Proofs.YtmddcohelcciaacDoorW.PrintLast Go.Proofs.YtmddcohelcciaacDoorW.PrintMore
attribute [local go_sem] max2_int min2_int max_two min_two max_three min_three max_four min_four   -- for this text's walks alone
set_option linter.unusedVariables false
set_option linter.unusedSimpArgs false

/-! ### spec_ReadDec: function 25 -/
mutual
def spec_ReadDec.j0 : Nat → ByteArray → Int → Bool → Bool → Option (Int × Int)
 | 0, _, _, _, _ => none
 | k + 1, x0, x4, x5, x26 => if x26 = true then (if 0 ≤ x4 then (if x4 < (x0.size : Int) then (spec_ReadDec.j1 k x0 (wrap64 (x4 + 1)) ((bt x0 x4) == 45)) else (none)) else (none)) else (spec_ReadDec.j1 k x0 x4 x5)
def spec_ReadDec.j1 : Nat → ByteArray → Int → Bool → Option (Int × Int)
 | 0, _, _, _ => none
 | k + 1, x0, x4, x5 => spec_ReadDec.l0 k x0 x4 x5 0 0
def spec_ReadDec.l0 : Nat → ByteArray → Int → Bool → Int → Int → Option (Int × Int)
 | 0, _, _, _, _, _ => none
 | k + 1, x0, x4, x5, x6, x7 => if x4 < (x0.size : Int) then (if 0 ≤ x4 then ((spec_l1digit.f (bt x0 x4)).bind fun t104 => (spec_ReadDec.j3 k x0 x4 x5 x6 x7 t104)) else (none)) else (spec_ReadDec.j3 k x0 x4 x5 x6 x7 false)
def spec_ReadDec.j3 : Nat → ByteArray → Int → Bool → Int → Int → Bool → Option (Int × Int)
 | 0, _, _, _, _, _, _ => none
 | k + 1, x0, x4, x5, x6, x7, x42 => if x42 = true then (if 0 ≤ x4 then (if x4 < (x0.size : Int) then (if (wrap64 ((wrap64 (x6 * 10)) + ((((bt x0 x4) - 48) % 256) * 1000000))) > 9000000000000 then (spec_ReadDec.l0 k x0 (wrap64 (x4 + 1)) x5 9000000000001 (wrap64 (x7 + 1))) else (spec_ReadDec.l0 k x0 (wrap64 (x4 + 1)) x5 (wrap64 ((wrap64 (x6 * 10)) + ((((bt x0 x4) - 48) % 256) * 1000000))) (wrap64 (x7 + 1)))) else (none)) else (none)) else (if x4 < (x0.size : Int) then (if 0 ≤ x4 then (if (bt x0 x4) = 46 then (if x7 > 0 then (spec_ReadDec.j4 k x0 x4 x5 x6 x7 true) else (if (wrap64 (x4 + 1)) < (x0.size : Int) then (if 0 ≤ (wrap64 (x4 + 1)) then ((spec_l1digit.f (bt x0 (wrap64 (x4 + 1)))).bind fun t105 => (spec_ReadDec.j4 k x0 x4 x5 x6 x7 t105)) else (none)) else (spec_ReadDec.j4 k x0 x4 x5 x6 x7 false))) else (spec_ReadDec.j4 k x0 x4 x5 x6 x7 false)) else (none)) else (spec_ReadDec.j4 k x0 x4 x5 x6 x7 false))
def spec_ReadDec.j4 : Nat → ByteArray → Int → Bool → Int → Int → Bool → Option (Int × Int)
 | 0, _, _, _, _, _, _ => none
 | k + 1, x0, x4, x5, x6, x7, x85 => if x85 = true then (spec_ReadDec.l1 k x0 (wrap64 (x4 + 1)) x5 x6 x7 100000) else (spec_ReadDec.j6 k x4 x5 x6 x7)
def spec_ReadDec.j6 : Nat → Int → Bool → Int → Int → Option (Int × Int)
 | 0, _, _, _, _ => none
 | k + 1, x4, x5, x6, x7 => if x7 = 0 then (some (0, 0)) else (if x6 > 9000000000000 then (if x5 = true then (some (-9000000000000, x4)) else (some (9000000000000, x4))) else (if x5 = true then (some (wrap64 (-x6), x4)) else (some (x6, x4))))
def spec_ReadDec.l1 : Nat → ByteArray → Int → Bool → Int → Int → Int → Option (Int × Int)
 | 0, _, _, _, _, _, _ => none
 | k + 1, x0, x4, x5, x6, x7, x8 => if x4 < (x0.size : Int) then (if 0 ≤ x4 then ((spec_l1digit.f (bt x0 x4)).bind fun t106 => (if t106 = true then (spec_ReadDec.l1 k x0 (wrap64 (x4 + 1)) x5 (wrap64 (x6 + (wrap64 ((((bt x0 x4) - 48) % 256) * x8)))) (wrap64 (x7 + 1)) (wrap64 (Int.tdiv x8 10))) else (spec_ReadDec.j6 k x4 x5 x6 x7))) else (none)) else (spec_ReadDec.j6 k x4 x5 x6 x7)
end
def spec_ReadDec.f (k : Nat) (a0 : ByteArray) : Option (Int × Int) := (spec_l1skip.f k a0 0).bind fun t103 => (if t103 < (a0.size : Int) then (if 0 ≤ t103 then (if (bt a0 t103) = 43 then (spec_ReadDec.j0 k a0 t103 false true) else (spec_ReadDec.j0 k a0 t103 false ((bt a0 t103) == 45))) else (none)) else (spec_ReadDec.j0 k a0 t103 false false))
theorem spec_ReadDec.mono_l : ∀ k, (∀ y0 y1 y2 y3, LeO (spec_ReadDec.j0 k y0 y1 y2 y3) (spec_ReadDec.j0 (k + 1) y0 y1 y2 y3)) ∧ (∀ y0 y1 y2, LeO (spec_ReadDec.j1 k y0 y1 y2) (spec_ReadDec.j1 (k + 1) y0 y1 y2)) ∧ (∀ y0 y1 y2 y3 y4, LeO (spec_ReadDec.l0 k y0 y1 y2 y3 y4) (spec_ReadDec.l0 (k + 1) y0 y1 y2 y3 y4)) ∧ (∀ y0 y1 y2 y3 y4 y5, LeO (spec_ReadDec.j3 k y0 y1 y2 y3 y4 y5) (spec_ReadDec.j3 (k + 1) y0 y1 y2 y3 y4 y5)) ∧ (∀ y0 y1 y2 y3 y4 y5, LeO (spec_ReadDec.j4 k y0 y1 y2 y3 y4 y5) (spec_ReadDec.j4 (k + 1) y0 y1 y2 y3 y4 y5)) ∧ (∀ y0 y1 y2 y3, LeO (spec_ReadDec.j6 k y0 y1 y2 y3) (spec_ReadDec.j6 (k + 1) y0 y1 y2 y3)) ∧ (∀ y0 y1 y2 y3 y4 y5, LeO (spec_ReadDec.l1 k y0 y1 y2 y3 y4 y5) (spec_ReadDec.l1 (k + 1) y0 y1 y2 y3 y4 y5))
 | 0 => ⟨fun _ _ _ _ r h => by simp [spec_ReadDec.j0] at h, fun _ _ _ r h => by simp [spec_ReadDec.j1] at h, fun _ _ _ _ _ r h => by simp [spec_ReadDec.l0] at h, fun _ _ _ _ _ _ r h => by simp [spec_ReadDec.j3] at h, fun _ _ _ _ _ _ r h => by simp [spec_ReadDec.j4] at h, fun _ _ _ _ r h => by simp [spec_ReadDec.j6] at h, fun _ _ _ _ _ _ r h => by simp [spec_ReadDec.l1] at h⟩
 | k + 1 => by
  obtain ⟨ih0, ih1, ih2, ih3, ih4, ih5, ih6⟩ := spec_ReadDec.mono_l k
  refine ⟨?_, ?_, ?_, ?_, ?_, ?_, ?_⟩
  ·
   intro y0 y1 y2 y3
   unfold spec_ReadDec.j0
   repeat' first
   | (with_reducible exact ih0 _ _ _ _)
   | (with_reducible exact ih1 _ _ _)
   | (with_reducible exact ih2 _ _ _ _ _)
   | (with_reducible exact ih3 _ _ _ _ _ _)
   | (with_reducible exact ih4 _ _ _ _ _ _)
   | (with_reducible exact ih5 _ _ _ _)
   | (with_reducible exact ih6 _ _ _ _ _ _)
   | (with_reducible exact spec_l1skip.mono _ _ _)
   | (with_reducible exact LeO.refl _)
   | (with_reducible exact LeO.none _)
   | (with_reducible refine LeO.ite ?_ ?_)
   | (with_reducible refine LeO.bind ?_ (fun _ => ?_))
   | exact ih0 _ _ _ _
   | exact ih1 _ _ _
   | exact ih2 _ _ _ _ _
   | exact ih3 _ _ _ _ _ _
   | exact ih4 _ _ _ _ _ _
   | exact ih5 _ _ _ _
   | exact ih6 _ _ _ _ _ _
   | exact spec_l1skip.mono _ _ _
   | exact LeO.none _
   | refine LeO.ite ?_ ?_
   | refine LeO.bind ?_ (fun _ => ?_)
  ·
   intro y0 y1 y2
   unfold spec_ReadDec.j1
   repeat' first
   | (with_reducible exact ih0 _ _ _ _)
   | (with_reducible exact ih1 _ _ _)
   | (with_reducible exact ih2 _ _ _ _ _)
   | (with_reducible exact ih3 _ _ _ _ _ _)
   | (with_reducible exact ih4 _ _ _ _ _ _)
   | (with_reducible exact ih5 _ _ _ _)
   | (with_reducible exact ih6 _ _ _ _ _ _)
   | (with_reducible exact spec_l1skip.mono _ _ _)
   | (with_reducible exact LeO.refl _)
   | (with_reducible exact LeO.none _)
   | (with_reducible refine LeO.ite ?_ ?_)
   | (with_reducible refine LeO.bind ?_ (fun _ => ?_))
   | exact ih0 _ _ _ _
   | exact ih1 _ _ _
   | exact ih2 _ _ _ _ _
   | exact ih3 _ _ _ _ _ _
   | exact ih4 _ _ _ _ _ _
   | exact ih5 _ _ _ _
   | exact ih6 _ _ _ _ _ _
   | exact spec_l1skip.mono _ _ _
   | exact LeO.none _
   | refine LeO.ite ?_ ?_
   | refine LeO.bind ?_ (fun _ => ?_)
  ·
   intro y0 y1 y2 y3 y4
   unfold spec_ReadDec.l0
   repeat' first
   | (with_reducible exact ih0 _ _ _ _)
   | (with_reducible exact ih1 _ _ _)
   | (with_reducible exact ih2 _ _ _ _ _)
   | (with_reducible exact ih3 _ _ _ _ _ _)
   | (with_reducible exact ih4 _ _ _ _ _ _)
   | (with_reducible exact ih5 _ _ _ _)
   | (with_reducible exact ih6 _ _ _ _ _ _)
   | (with_reducible exact spec_l1skip.mono _ _ _)
   | (with_reducible exact LeO.refl _)
   | (with_reducible exact LeO.none _)
   | (with_reducible refine LeO.ite ?_ ?_)
   | (with_reducible refine LeO.bind ?_ (fun _ => ?_))
   | exact ih0 _ _ _ _
   | exact ih1 _ _ _
   | exact ih2 _ _ _ _ _
   | exact ih3 _ _ _ _ _ _
   | exact ih4 _ _ _ _ _ _
   | exact ih5 _ _ _ _
   | exact ih6 _ _ _ _ _ _
   | exact spec_l1skip.mono _ _ _
   | exact LeO.none _
   | refine LeO.ite ?_ ?_
   | refine LeO.bind ?_ (fun _ => ?_)
  ·
   intro y0 y1 y2 y3 y4 y5
   unfold spec_ReadDec.j3
   repeat' first
   | (with_reducible exact ih0 _ _ _ _)
   | (with_reducible exact ih1 _ _ _)
   | (with_reducible exact ih2 _ _ _ _ _)
   | (with_reducible exact ih3 _ _ _ _ _ _)
   | (with_reducible exact ih4 _ _ _ _ _ _)
   | (with_reducible exact ih5 _ _ _ _)
   | (with_reducible exact ih6 _ _ _ _ _ _)
   | (with_reducible exact spec_l1skip.mono _ _ _)
   | (with_reducible exact LeO.refl _)
   | (with_reducible exact LeO.none _)
   | (with_reducible refine LeO.ite ?_ ?_)
   | (with_reducible refine LeO.bind ?_ (fun _ => ?_))
   | exact ih0 _ _ _ _
   | exact ih1 _ _ _
   | exact ih2 _ _ _ _ _
   | exact ih3 _ _ _ _ _ _
   | exact ih4 _ _ _ _ _ _
   | exact ih5 _ _ _ _
   | exact ih6 _ _ _ _ _ _
   | exact spec_l1skip.mono _ _ _
   | exact LeO.none _
   | refine LeO.ite ?_ ?_
   | refine LeO.bind ?_ (fun _ => ?_)
  ·
   intro y0 y1 y2 y3 y4 y5
   unfold spec_ReadDec.j4
   repeat' first
   | (with_reducible exact ih0 _ _ _ _)
   | (with_reducible exact ih1 _ _ _)
   | (with_reducible exact ih2 _ _ _ _ _)
   | (with_reducible exact ih3 _ _ _ _ _ _)
   | (with_reducible exact ih4 _ _ _ _ _ _)
   | (with_reducible exact ih5 _ _ _ _)
   | (with_reducible exact ih6 _ _ _ _ _ _)
   | (with_reducible exact spec_l1skip.mono _ _ _)
   | (with_reducible exact LeO.refl _)
   | (with_reducible exact LeO.none _)
   | (with_reducible refine LeO.ite ?_ ?_)
   | (with_reducible refine LeO.bind ?_ (fun _ => ?_))
   | exact ih0 _ _ _ _
   | exact ih1 _ _ _
   | exact ih2 _ _ _ _ _
   | exact ih3 _ _ _ _ _ _
   | exact ih4 _ _ _ _ _ _
   | exact ih5 _ _ _ _
   | exact ih6 _ _ _ _ _ _
   | exact spec_l1skip.mono _ _ _
   | exact LeO.none _
   | refine LeO.ite ?_ ?_
   | refine LeO.bind ?_ (fun _ => ?_)
  ·
   intro y0 y1 y2 y3
   unfold spec_ReadDec.j6
   repeat' first
   | (with_reducible exact ih0 _ _ _ _)
   | (with_reducible exact ih1 _ _ _)
   | (with_reducible exact ih2 _ _ _ _ _)
   | (with_reducible exact ih3 _ _ _ _ _ _)
   | (with_reducible exact ih4 _ _ _ _ _ _)
   | (with_reducible exact ih5 _ _ _ _)
   | (with_reducible exact ih6 _ _ _ _ _ _)
   | (with_reducible exact spec_l1skip.mono _ _ _)
   | (with_reducible exact LeO.refl _)
   | (with_reducible exact LeO.none _)
   | (with_reducible refine LeO.ite ?_ ?_)
   | (with_reducible refine LeO.bind ?_ (fun _ => ?_))
   | exact ih0 _ _ _ _
   | exact ih1 _ _ _
   | exact ih2 _ _ _ _ _
   | exact ih3 _ _ _ _ _ _
   | exact ih4 _ _ _ _ _ _
   | exact ih5 _ _ _ _
   | exact ih6 _ _ _ _ _ _
   | exact spec_l1skip.mono _ _ _
   | exact LeO.none _
   | refine LeO.ite ?_ ?_
   | refine LeO.bind ?_ (fun _ => ?_)
  ·
   intro y0 y1 y2 y3 y4 y5
   unfold spec_ReadDec.l1
   repeat' first
   | (with_reducible exact ih0 _ _ _ _)
   | (with_reducible exact ih1 _ _ _)
   | (with_reducible exact ih2 _ _ _ _ _)
   | (with_reducible exact ih3 _ _ _ _ _ _)
   | (with_reducible exact ih4 _ _ _ _ _ _)
   | (with_reducible exact ih5 _ _ _ _)
   | (with_reducible exact ih6 _ _ _ _ _ _)
   | (with_reducible exact spec_l1skip.mono _ _ _)
   | (with_reducible exact LeO.refl _)
   | (with_reducible exact LeO.none _)
   | (with_reducible refine LeO.ite ?_ ?_)
   | (with_reducible refine LeO.bind ?_ (fun _ => ?_))
   | exact ih0 _ _ _ _
   | exact ih1 _ _ _
   | exact ih2 _ _ _ _ _
   | exact ih3 _ _ _ _ _ _
   | exact ih4 _ _ _ _ _ _
   | exact ih5 _ _ _ _
   | exact ih6 _ _ _ _ _ _
   | exact spec_l1skip.mono _ _ _
   | exact LeO.none _
   | refine LeO.ite ?_ ?_
   | refine LeO.bind ?_ (fun _ => ?_)
theorem spec_ReadDec.mono : ∀ a0 k, LeO (spec_ReadDec.f k a0) (spec_ReadDec.f (k + 1) a0) := by
 intro a0 k
 obtain ⟨ih0, ih1, ih2, ih3, ih4, ih5, ih6⟩ := spec_ReadDec.mono_l k
 unfold spec_ReadDec.f
 repeat' first
   | (with_reducible exact ih0 _ _ _ _)
   | (with_reducible exact ih1 _ _ _)
   | (with_reducible exact ih2 _ _ _ _ _)
   | (with_reducible exact ih3 _ _ _ _ _ _)
   | (with_reducible exact ih4 _ _ _ _ _ _)
   | (with_reducible exact ih5 _ _ _ _)
   | (with_reducible exact ih6 _ _ _ _ _ _)
   | (with_reducible exact spec_l1skip.mono _ _ _)
   | (with_reducible exact LeO.refl _)
   | (with_reducible exact LeO.none _)
   | (with_reducible refine LeO.ite ?_ ?_)
   | (with_reducible refine LeO.bind ?_ (fun _ => ?_))
   | exact ih0 _ _ _ _
   | exact ih1 _ _ _
   | exact ih2 _ _ _ _ _
   | exact ih3 _ _ _ _ _ _
   | exact ih4 _ _ _ _ _ _
   | exact ih5 _ _ _ _
   | exact ih6 _ _ _ _ _ _
   | exact spec_l1skip.mono _ _ _
   | exact LeO.none _
   | refine LeO.ite ?_ ?_
   | refine LeO.bind ?_ (fun _ => ?_)
set_option maxHeartbeats 8000000 in
set_option maxRecDepth 100000 in
theorem spec_ReadDec.calls (k : Nat) (a0 : ByteArray) (r1 : Int) (r2 : Int) (w : World) (h : spec_ReadDec.f k a0 = some (r1, r2)) :
  Calls Tryd.prog 25 #[.string a0] w fun e w' => e = .returned (.tuple #[.int .i64 r1, .int .i64 r2]) ∧ Drawn0 w w' := by
 have H : ((spec_l1skip.f k a0 0).bind fun t103 => (if t103 < (a0.size : Int) then (if 0 ≤ t103 then (if (bt a0 t103) = 43 then (spec_ReadDec.j0 k a0 t103 false true) else (spec_ReadDec.j0 k a0 t103 false ((bt a0 t103) == 45))) else (none)) else (spec_ReadDec.j0 k a0 t103 false false))) = some (r1, r2) := h
 clear h
 replace H := Option.bind_eq_some_iff.mp H
 obtain ⟨t103, A20, H⟩ := H
 replace H : (if t103 < (a0.size : Int) then (if 0 ≤ t103 then (if (bt a0 t103) = 43 then (spec_ReadDec.j0 k a0 t103 false true) else (spec_ReadDec.j0 k a0 t103 false ((bt a0 t103) == 45))) else (none)) else (spec_ReadDec.j0 k a0 t103 false false)) = some (r1, r2) := H
 have A2 := Aside0.mk A20
 clear A20
 have HC3 := Aside0.mk H
 clear H
 go_enter Tryd.func25, Tryd.ntmps25
 go_upto_region 3 with (first | ((with_reducible refine gate_callee (f := 39) rfl ?_); refine goesL_ (some 10) rfl rfl Tryd.func39 (by kernel_rfl) rfl #[.string a0, .int .i64 0] rfl mapK ?_; (with_reducible refine (spec_l1skip.calls k a0 0 t103 _ A2.out).mono ?_); rintro e w' ⟨rfl, ⟨nd, rfl⟩⟩; refine ⟨_, rfl, ?_⟩))
 (try simp only [Act.put, List.setIfInBounds_toArray, List.set_cons_zero, List.set_cons_succ])
 go_cut [26] (fun v26 wc => ∃ (kq : Nat) (x26_2 : Bool), v26 = .bool x26_2 ∧ Aside0 (spec_ReadDec.j0 kq a0 t103 false x26_2 = some (r1, r2)) ∧ Aside0 (kq ≤ k) ∧ Drawn0 w wc)
 case first =>
  have H := HC3.out
  clear HC3
  by_cases c4 : t103 < (a0.size : Int)
  ·
   rw [if_pos c4] at H
   have c4b0 : decide (t103 < (a0.size : Int)) = true := decide_eq_true c4
   clear c4
   (first | rw [c4b0] | (simp only [i64_w, i32_w]; rw [c4b0]) | skip)
   by_cases c5 : 0 ≤ t103
   ·
    rw [if_pos c5] at H
    have c5b0 : decide (0 ≤ t103) = true := decide_eq_true c5
    clear c5
    by_cases c7 : (bt a0 t103) = 43
    ·
     rw [if_pos c7] at H
     have c7b0 : ((bt a0 t103) == 43) = true := beq_iff_eq.mpr c7
     have c7b1 : ((bt a0 t103) != 43) = false := bne_eq_false_iff_eq.mpr c7
     clear c7
     have H' := Aside0.mk H
     clear H
     have p6 : 0 ≤ (t103 : Int) := dA
     have q6 : t103 < (a0.size : Int) := dA
     have hx6 := bt_at a0 t103
     replace p6 := eq_true p6
     replace q6 := eq_true q6
     go_wp2
     go_meet
     case rel => exact ⟨_, (true), argK, H', ⟨by first | omega | exact Nat.le_refl _⟩, drK⟩
    ·
     rw [if_neg c7] at H
     have c7b0 : ((bt a0 t103) == 43) = false := beq_eq_false_iff_ne.mpr c7
     have c7b1 : ((bt a0 t103) != 43) = true := bne_iff_ne.mpr c7
     have H' := Aside0.mk H
     clear H
     have p6 : 0 ≤ (t103 : Int) := dA
     have q6 : t103 < (a0.size : Int) := dA
     have hx6 := bt_at a0 t103
     replace p6 := eq_true p6
     replace q6 := eq_true q6
     have p8 : 0 ≤ (t103 : Int) := dA
     have q8 : t103 < (a0.size : Int) := dA
     have hx8 := bt_at a0 t103
     replace p8 := eq_true p8
     replace q8 := eq_true q8
     go_wp2
     go_meet
     case rel => exact ⟨_, (((bt a0 t103) == 45)), argK, H', ⟨by first | omega | exact Nat.le_refl _⟩, drK⟩
   ·
    rw [if_neg c5] at H
    exact absurd H (by simp)
  ·
   rw [if_neg c4] at H
   have c4b0 : decide (t103 < (a0.size : Int)) = false := decide_eq_false c4
   clear c4
   (first | rw [c4b0] | (simp only [i64_w, i32_w]; rw [c4b0]) | skip)
   have H' := Aside0.mk H
   clear H
   go_wp2
   go_meet
   case rel => exact ⟨_, (false), argK, H', ⟨by first | omega | exact Nat.le_refl _⟩, drK⟩
 case rest =>
  clear HC3
  try clear c2
  try clear p2
  try clear c3
  try clear c4
  try clear c4b0
  try clear c5
  try clear c5b0
  try clear p6
  try clear q6
  try clear hx6
  try clear c7
  try clear c7b0
  try clear c7b1
  try clear p8
  try clear q8
  try clear hx8
  try clear p6
  try clear p8
  try clear q6
  try clear q8
  obtain ⟨kq, x26_2, rfl, HA, HJ2, ⟨mc2, rfl⟩⟩ := hcut
  cases kq with
  | zero => exact absurd HA.out (by simp [spec_ReadDec.j0])
  | succ kj2 =>
   have H := HA.out
   clear HA
   simp only [spec_ReadDec.j0] at H
   have HC9 := Aside0.mk H
   clear H
   go_upto_if 26 with (fail)
   go_cut [4, 5] (fun v4 v5 wc => ∃ (kq : Nat) (x4_8 : Int) (x5_8 : Bool), v4 = .int .i64 x4_8 ∧ v5 = .bool x5_8 ∧ Aside0 (spec_ReadDec.j1 kq a0 x4_8 x5_8 = some (r1, r2)) ∧ Aside0 (kq ≤ kj2) ∧ Drawn0 w wc)
   case first =>
    have H := HC9.out
    clear HC9
    by_cases c10 : x26_2 = true
    ·
     subst c10
     have H1 : (if 0 ≤ t103 then (if t103 < (a0.size : Int) then (spec_ReadDec.j1 kj2 a0 (wrap64 (t103 + 1)) ((bt a0 t103) == 45)) else (none)) else (none)) = some (r1, r2) := by rw [if_pos rfl] at H; exact H
     clear H
     have H := H1
     clear H1
     by_cases c11 : 0 ≤ t103
     ·
      rw [if_pos c11] at H
      have c11b0 : decide (0 ≤ t103) = true := decide_eq_true c11
      clear c11
      (first | rw [c11b0] | (simp only [i64_w, i32_w]; rw [c11b0]) | skip)
      by_cases c12 : t103 < (a0.size : Int)
      ·
       rw [if_pos c12] at H
       have c12b0 : decide (t103 < (a0.size : Int)) = true := decide_eq_true c12
       clear c12
       have H' := Aside0.mk H
       clear H
       have p13 : 0 ≤ (t103 : Int) := dA
       have q13 : t103 < (a0.size : Int) := dA
       have hx13 := bt_at a0 t103
       replace p13 := eq_true p13
       replace q13 := eq_true q13
       go_wp2
       go_meet
       case rel => exact ⟨_, (wrap64 (t103 + 1)), (((bt a0 t103) == 45)), argK, argK, H', ⟨by have := HJ2.out; first | omega | exact Nat.le_refl _⟩, drK⟩
      ·
       rw [if_neg c12] at H
       exact absurd H (by simp)
     ·
      rw [if_neg c11] at H
      exact absurd H (by simp)
    ·
     replace c10 := Bool.eq_false_iff.mpr c10
     subst c10
     have H1 : (spec_ReadDec.j1 kj2 a0 t103 false) = some (r1, r2) := by rw [if_neg (show ¬ (false = true) by decide)] at H; exact H
     clear H
     have H := H1
     clear H1
     have H' := Aside0.mk H
     clear H
     go_wp2
     go_meet
     case rel => exact ⟨_, (t103), (false), argK, argK, H', ⟨by have := HJ2.out; first | omega | exact Nat.le_refl _⟩, drK⟩
   case rest =>
    clear HC9
    try clear c1
    try clear p1
    try clear q1
    try clear hx1
    try clear c2
    try clear p2
    try clear c3
    try clear c4
    try clear c4b0
    try clear c5
    try clear c5b0
    try clear p6
    try clear q6
    try clear hx6
    try clear c7
    try clear c7b0
    try clear c7b1
    try clear p8
    try clear q8
    try clear hx8
    try clear c10
    try clear c11
    try clear c11b0
    try clear c12
    try clear c12b0
    try clear p13
    try clear q13
    try clear hx13
    try clear p13
    try clear p2
    try clear p6
    try clear p8
    try clear q13
    try clear q6
    try clear q8
    obtain ⟨kq, x4_8, x5_8, rfl, rfl, HA, HJ8, ⟨mc8, rfl⟩⟩ := hcut
    cases kq with
    | zero => exact absurd HA.out (by simp [spec_ReadDec.j1])
    | succ kj8 =>
     have H := HA.out
     clear HA
     simp only [spec_ReadDec.j1] at H
     have H' := Aside0.mk H
     clear H
     go_wp2
     go_loopg [4, 6, 7] kj8 (fun kq v4 v6 v7 w' => ∃ (x4_3 : Int) (x6_3 : Int) (x7_3 : Int), v4 = .int .i64 x4_3 ∧ v6 = .int .i64 x6_3 ∧ v7 = .int .i64 x7_3 ∧ Aside0 (spec_ReadDec.l0 kq a0 x4_3 x5_8 x6_3 x7_3 = some (r1, r2)) ∧ Aside0 (kq ≤ kj8) ∧ Drawn0 w w')
     case atStart => exact ⟨(x4_8), (0), (0), argK, argK, argK, H', ⟨Nat.le_refl _⟩, drK⟩
     case round =>
      clear H'
      try clear c1
      try clear p1
      try clear q1
      try clear hx1
      try clear c2
      try clear p2
      try clear c3
      try clear c4
      try clear c4b0
      try clear c5
      try clear c5b0
      try clear p6
      try clear q6
      try clear hx6
      try clear c7
      try clear c7b0
      try clear c7b1
      try clear c8
      try clear p8
      try clear q8
      try clear hx8
      try clear c10
      try clear c11
      try clear c11b0
      try clear c12
      try clear c12b0
      try clear p13
      try clear q13
      try clear hx13
      try clear p1
      try clear p13
      try clear p2
      try clear p6
      try clear p8
      try clear q1
      try clear q13
      try clear q6
      try clear q8
      obtain ⟨x4_3, x6_3, x7_3, rfl, rfl, rfl, HA, HK3, ⟨m3, rfl⟩⟩ := hrel
      cases gk with
      | zero => exact absurd HA.out (by simp [spec_ReadDec.l0])
      | succ k3 =>
       have H := HA.out
       clear HA
       simp only [spec_ReadDec.l0] at H
       have HC14 := Aside0.mk H
       clear H
       go_upto_region 8 with (fail)
       go_cut [42] (fun v42 wc => ∃ (kq : Nat) (x42_13 : Bool), v42 = .bool x42_13 ∧ Aside0 (spec_ReadDec.j3 kq a0 x4_3 x5_8 x6_3 x7_3 x42_13 = some (r1, r2)) ∧ Aside0 (kq ≤ k3) ∧ Drawn0 w wc)
       case first =>
        have H := HC14.out
        clear HC14
        by_cases c15 : x4_3 < (a0.size : Int)
        ·
         rw [if_pos c15] at H
         have c15b0 : decide (x4_3 < (a0.size : Int)) = true := decide_eq_true c15
         clear c15
         (first | rw [c15b0] | (simp only [i64_w, i32_w]; rw [c15b0]) | skip)
         by_cases c16 : 0 ≤ x4_3
         ·
          rw [if_pos c16] at H
          have c16b0 : decide (0 ≤ x4_3) = true := decide_eq_true c16
          clear c16
          replace H := Option.bind_eq_some_iff.mp H
          obtain ⟨t104, A180, H⟩ := H
          replace H : (spec_ReadDec.j3 k3 a0 x4_3 x5_8 x6_3 x7_3 t104) = some (r1, r2) := H
          have A18 := Aside0.mk A180
          clear A180
          have H' := Aside0.mk H
          clear H
          have p17 : 0 ≤ (x4_3 : Int) := dA
          have q17 : x4_3 < (a0.size : Int) := dA
          have hx17 := bt_at a0 x4_3
          replace p17 := eq_true p17
          replace q17 := eq_true q17
          go_wp2_with (first | (go_at_call 10; (with_reducible refine (spec_l1digit.calls (bt a0 x4_3) t104 _ A18.out).mono ?_); rintro e w' ⟨rfl, ⟨nd, rfl⟩⟩))
          go_meet
          case rel => exact ⟨_, (t104), argK, H', ⟨by have := HJ2.out; have := HJ8.out; have := HK3.out; first | omega | exact Nat.le_refl _⟩, drK⟩
         ·
          rw [if_neg c16] at H
          exact absurd H (by simp)
        ·
         rw [if_neg c15] at H
         have c15b0 : decide (x4_3 < (a0.size : Int)) = false := decide_eq_false c15
         clear c15
         (first | rw [c15b0] | (simp only [i64_w, i32_w]; rw [c15b0]) | skip)
         have H' := Aside0.mk H
         clear H
         go_wp2
         go_meet
         case rel => exact ⟨_, (false), argK, H', ⟨by have := HJ2.out; have := HJ8.out; have := HK3.out; first | omega | exact Nat.le_refl _⟩, drK⟩
       case rest =>
        clear HC14
        try clear c1
        try clear p1
        try clear q1
        try clear hx1
        try clear c2
        try clear p2
        try clear c3
        try clear c4
        try clear c4b0
        try clear c5
        try clear c5b0
        try clear p6
        try clear q6
        try clear hx6
        try clear c7
        try clear c7b0
        try clear c7b1
        try clear c8
        try clear p8
        try clear q8
        try clear hx8
        try clear c10
        try clear c11
        try clear c11b0
        try clear c12
        try clear c12b0
        try clear p13
        try clear q13
        try clear hx13
        try clear c15
        try clear c15b0
        try clear c16
        try clear c16b0
        try clear p17
        try clear q17
        try clear hx17
        try clear p1
        try clear p13
        try clear p17
        try clear p2
        try clear p6
        try clear p8
        try clear q1
        try clear q13
        try clear q17
        try clear q6
        try clear q8
        obtain ⟨kq, x42_13, rfl, HA, HJ13, ⟨mc13, rfl⟩⟩ := hcut
        cases kq with
        | zero => exact absurd HA.out (by simp [spec_ReadDec.j3])
        | succ kj13 =>
         have H := HA.out
         clear HA
         simp only [spec_ReadDec.j3] at H
         by_cases c19 : x42_13 = true
         ·
          subst c19
          have H1 : (if 0 ≤ x4_3 then (if x4_3 < (a0.size : Int) then (if (wrap64 ((wrap64 (x6_3 * 10)) + ((((bt a0 x4_3) - 48) % 256) * 1000000))) > 9000000000000 then (spec_ReadDec.l0 kj13 a0 (wrap64 (x4_3 + 1)) x5_8 9000000000001 (wrap64 (x7_3 + 1))) else (spec_ReadDec.l0 kj13 a0 (wrap64 (x4_3 + 1)) x5_8 (wrap64 ((wrap64 (x6_3 * 10)) + ((((bt a0 x4_3) - 48) % 256) * 1000000))) (wrap64 (x7_3 + 1)))) else (none)) else (none)) = some (r1, r2) := by rw [if_pos rfl] at H; exact H
          clear H
          have H := H1
          clear H1
          by_cases c20 : 0 ≤ x4_3
          ·
           rw [if_pos c20] at H
           have c20b0 : decide (0 ≤ x4_3) = true := decide_eq_true c20
           clear c20
           by_cases c21 : x4_3 < (a0.size : Int)
           ·
            rw [if_pos c21] at H
            have c21b0 : decide (x4_3 < (a0.size : Int)) = true := decide_eq_true c21
            clear c21
            by_cases c23 : (wrap64 ((wrap64 (x6_3 * 10)) + ((((bt a0 x4_3) - 48) % 256) * 1000000))) > 9000000000000
            ·
             rw [if_pos c23] at H
             have c23b0 : decide (9000000000000 < (wrap64 ((wrap64 (x6_3 * 10)) + ((((bt a0 x4_3) - 48) % 256) * 1000000)))) = true := decide_eq_true c23
             clear c23
             have H' := Aside0.mk H
             clear H
             have p22 : 0 ≤ (x4_3 : Int) := dA
             have q22 : x4_3 < (a0.size : Int) := dA
             have hx22 := bt_at a0 x4_3
             replace p22 := eq_true p22
             replace q22 := eq_true q22
             go_wp2
             go_roundg kj13
             case measure => have := HJ2.out; have := HJ8.out; have := HK3.out; have := HJ13.out; omega
             case rel => exact ⟨(wrap64 (x4_3 + 1)), (9000000000001), (wrap64 (x7_3 + 1)), argK, argK, argK, H', ⟨by have := HJ2.out; have := HJ8.out; have := HK3.out; have := HJ13.out; omega⟩, drK⟩
            ·
             rw [if_neg c23] at H
             have c23b0 : decide (9000000000000 < (wrap64 ((wrap64 (x6_3 * 10)) + ((((bt a0 x4_3) - 48) % 256) * 1000000)))) = false := decide_eq_false c23
             clear c23
             have H' := Aside0.mk H
             clear H
             have p22 : 0 ≤ (x4_3 : Int) := dA
             have q22 : x4_3 < (a0.size : Int) := dA
             have hx22 := bt_at a0 x4_3
             replace p22 := eq_true p22
             replace q22 := eq_true q22
             go_wp2
             go_roundg kj13
             case measure => have := HJ2.out; have := HJ8.out; have := HK3.out; have := HJ13.out; omega
             case rel => exact ⟨(wrap64 (x4_3 + 1)), (wrap64 ((wrap64 (x6_3 * 10)) + ((((bt a0 x4_3) - 48) % 256) * 1000000))), (wrap64 (x7_3 + 1)), argK, argK, argK, H', ⟨by have := HJ2.out; have := HJ8.out; have := HK3.out; have := HJ13.out; omega⟩, drK⟩
           ·
            rw [if_neg c21] at H
            exact absurd H (by simp)
          ·
           rw [if_neg c20] at H
           exact absurd H (by simp)
         ·
          replace c19 := Bool.eq_false_iff.mpr c19
          subst c19
          have H1 : (if x4_3 < (a0.size : Int) then (if 0 ≤ x4_3 then (if (bt a0 x4_3) = 46 then (if x7_3 > 0 then (spec_ReadDec.j4 kj13 a0 x4_3 x5_8 x6_3 x7_3 true) else (if (wrap64 (x4_3 + 1)) < (a0.size : Int) then (if 0 ≤ (wrap64 (x4_3 + 1)) then ((spec_l1digit.f (bt a0 (wrap64 (x4_3 + 1)))).bind fun t105 => (spec_ReadDec.j4 kj13 a0 x4_3 x5_8 x6_3 x7_3 t105)) else (none)) else (spec_ReadDec.j4 kj13 a0 x4_3 x5_8 x6_3 x7_3 false))) else (spec_ReadDec.j4 kj13 a0 x4_3 x5_8 x6_3 x7_3 false)) else (none)) else (spec_ReadDec.j4 kj13 a0 x4_3 x5_8 x6_3 x7_3 false)) = some (r1, r2) := by rw [if_neg (show ¬ (false = true) by decide)] at H; exact H
          clear H
          have H := H1
          clear H1
          have HC24 := Aside0.mk H
          clear H
          go_upto_region 14 with (fail)
          go_cut [85] (fun v85 wc => ∃ (kq : Nat) (x85_23 : Bool), v85 = .bool x85_23 ∧ Aside0 (spec_ReadDec.j4 kq a0 x4_3 x5_8 x6_3 x7_3 x85_23 = some (r1, r2)) ∧ Aside0 (kq ≤ kj13) ∧ Drawn0 w wc)
          case first =>
           have H := HC24.out
           clear HC24
           by_cases c25 : x4_3 < (a0.size : Int)
           ·
            rw [if_pos c25] at H
            have c25b0 : decide (x4_3 < (a0.size : Int)) = true := decide_eq_true c25
            clear c25
            (first | rw [c25b0] | (simp only [i64_w, i32_w]; rw [c25b0]) | skip)
            by_cases c26 : 0 ≤ x4_3
            ·
             rw [if_pos c26] at H
             have c26b0 : decide (0 ≤ x4_3) = true := decide_eq_true c26
             clear c26
             by_cases c28 : (bt a0 x4_3) = 46
             ·
              rw [if_pos c28] at H
              have c28b0 : ((bt a0 x4_3) == 46) = true := beq_iff_eq.mpr c28
              have c28b1 : ((bt a0 x4_3) != 46) = false := bne_eq_false_iff_eq.mpr c28
              clear c28
              by_cases c29 : x7_3 > 0
              ·
               rw [if_pos c29] at H
               have c29b0 : decide (0 < x7_3) = true := decide_eq_true c29
               clear c29
               have H' := Aside0.mk H
               clear H
               have p27 : 0 ≤ (x4_3 : Int) := dA
               have q27 : x4_3 < (a0.size : Int) := dA
               have hx27 := bt_at a0 x4_3
               replace p27 := eq_true p27
               replace q27 := eq_true q27
               go_wp2
               go_meet
               case rel => exact ⟨_, (true), argK, H', ⟨by have := HJ2.out; have := HJ8.out; have := HK3.out; have := HJ13.out; first | omega | exact Nat.le_refl _⟩, drK⟩
              ·
               rw [if_neg c29] at H
               have c29b0 : decide (0 < x7_3) = false := decide_eq_false c29
               clear c29
               by_cases c30 : (wrap64 (x4_3 + 1)) < (a0.size : Int)
               ·
                rw [if_pos c30] at H
                have c30b0 : decide ((wrap64 (x4_3 + 1)) < (a0.size : Int)) = true := decide_eq_true c30
                clear c30
                obtain ⟨ji31, hji31⟩ : ∃ j_ : Int, (wrap64 (x4_3 + 1)) = j_ := ⟨_, rfl⟩
                replace H : (if 0 ≤ (ji31) then ((spec_l1digit.f (bt a0 (ji31))).bind fun t105 => (spec_ReadDec.j4 kj13 a0 x4_3 x5_8 x6_3 x7_3 t105)) else (none)) = some (r1, r2) := by first | (rw [hji31] at H; exact H) | (simp only [hji31] at H ⊢; exact H)
                (try rw [hji31] at c30b0)
                have hji31w : (IntKind.i64.wrap (x4_3 + 1)) = ji31 := (i64_w _).trans hji31
                by_cases c32 : 0 ≤ (ji31)
                ·
                 rw [if_pos c32] at H
                 have c32b0 : decide (0 ≤ (ji31)) = true := decide_eq_true c32
                 clear c32
                 replace H := Option.bind_eq_some_iff.mp H
                 obtain ⟨t105, A340, H⟩ := H
                 replace H : (spec_ReadDec.j4 kj13 a0 x4_3 x5_8 x6_3 x7_3 t105) = some (r1, r2) := H
                 have A34 := Aside0.mk A340
                 clear A340
                 have H' := Aside0.mk H
                 clear H
                 have p27 : 0 ≤ (x4_3 : Int) := dA
                 have q27 : x4_3 < (a0.size : Int) := dA
                 have hx27 := bt_at a0 x4_3
                 replace p27 := eq_true p27
                 replace q27 := eq_true q27
                 have p33 : 0 ≤ ((ji31) : Int) := dA
                 have q33 : (ji31) < (a0.size : Int) := dA
                 have hx33 := bt_at a0 (ji31)
                 replace p33 := eq_true p33
                 replace q33 := eq_true q33
                 go_wp2_with (first | (go_at_call 10; (with_reducible refine (spec_l1digit.calls (bt a0 (ji31)) t105 _ A34.out).mono ?_); rintro e w' ⟨rfl, ⟨nd, rfl⟩⟩))
                 go_meet
                 case rel => exact ⟨_, (t105), argK, (by first | exact H' | (simp only [hji31]; exact H') | (simp only [hji31] at H' ⊢; exact H')), ⟨by have := HJ2.out; have := HJ8.out; have := HK3.out; have := HJ13.out; first | omega | exact Nat.le_refl _⟩, drK⟩
                ·
                 rw [if_neg c32] at H
                 exact absurd H (by simp)
               ·
                rw [if_neg c30] at H
                have c30b0 : decide ((wrap64 (x4_3 + 1)) < (a0.size : Int)) = false := decide_eq_false c30
                clear c30
                have H' := Aside0.mk H
                clear H
                have p27 : 0 ≤ (x4_3 : Int) := dA
                have q27 : x4_3 < (a0.size : Int) := dA
                have hx27 := bt_at a0 x4_3
                replace p27 := eq_true p27
                replace q27 := eq_true q27
                go_wp2
                go_meet
                case rel => exact ⟨_, (false), argK, H', ⟨by have := HJ2.out; have := HJ8.out; have := HK3.out; have := HJ13.out; first | omega | exact Nat.le_refl _⟩, drK⟩
             ·
              rw [if_neg c28] at H
              have c28b0 : ((bt a0 x4_3) == 46) = false := beq_eq_false_iff_ne.mpr c28
              have c28b1 : ((bt a0 x4_3) != 46) = true := bne_iff_ne.mpr c28
              have H' := Aside0.mk H
              clear H
              have p27 : 0 ≤ (x4_3 : Int) := dA
              have q27 : x4_3 < (a0.size : Int) := dA
              have hx27 := bt_at a0 x4_3
              replace p27 := eq_true p27
              replace q27 := eq_true q27
              go_wp2
              go_meet
              case rel => exact ⟨_, (false), argK, H', ⟨by have := HJ2.out; have := HJ8.out; have := HK3.out; have := HJ13.out; first | omega | exact Nat.le_refl _⟩, drK⟩
            ·
             rw [if_neg c26] at H
             exact absurd H (by simp)
           ·
            rw [if_neg c25] at H
            have c25b0 : decide (x4_3 < (a0.size : Int)) = false := decide_eq_false c25
            clear c25
            (first | rw [c25b0] | (simp only [i64_w, i32_w]; rw [c25b0]) | skip)
            have H' := Aside0.mk H
            clear H
            go_wp2
            go_meet
            case rel => exact ⟨_, (false), argK, H', ⟨by have := HJ2.out; have := HJ8.out; have := HK3.out; have := HJ13.out; first | omega | exact Nat.le_refl _⟩, drK⟩
          case rest =>
           clear HC24
           try clear c1
           try clear p1
           try clear q1
           try clear hx1
           try clear c2
           try clear p2
           try clear q2
           try clear hx2
           try clear c3
           try clear p3
           try clear q3
           try clear hx3
           try clear c4
           try clear c4b0
           try clear c5
           try clear c5b0
           try clear p6
           try clear q6
           try clear hx6
           try clear c7
           try clear c7b0
           try clear c7b1
           try clear c8
           try clear p8
           try clear q8
           try clear hx8
           try clear c10
           try clear c11
           try clear c11b0
           try clear c12
           try clear c12b0
           try clear c13
           try clear p13
           try clear q13
           try clear hx13
           try clear c15
           try clear c15b0
           try clear c16
           try clear c16b0
           try clear p17
           try clear q17
           try clear hx17
           try clear c19
           try clear c20
           try clear c20b0
           try clear c21
           try clear c21b0
           try clear p22
           try clear q22
           try clear hx22
           try clear c23
           try clear c23b0
           try clear c25
           try clear c25b0
           try clear c26
           try clear c26b0
           try clear p27
           try clear q27
           try clear hx27
           try clear c28
           try clear c28b0
           try clear c28b1
           try clear c29
           try clear c29b0
           try clear c30
           try clear c30b0
           try clear c32
           try clear c32b0
           try clear p33
           try clear q33
           try clear hx33
           try clear p1
           try clear p13
           try clear p17
           try clear p2
           try clear p22
           try clear p27
           try clear p33
           try clear p6
           try clear p8
           try clear q1
           try clear q13
           try clear q17
           try clear q22
           try clear q27
           try clear q33
           try clear q6
           try clear q8
           obtain ⟨kq, x85_23, rfl, HA, HJ23, ⟨mc23, rfl⟩⟩ := hcut
           cases kq with
           | zero => exact absurd HA.out (by simp [spec_ReadDec.j4])
           | succ kj23 =>
            have H := HA.out
            clear HA
            simp only [spec_ReadDec.j4] at H
            have HC35 := Aside0.mk H
            clear H
            go_upto_if 85 with (fail)
            go_cut [4, 6, 7] (fun v4 v6 v7 wc => ∃ (kq : Nat) (x4_34 : Int) (x6_34 : Int) (x7_34 : Int), v4 = .int .i64 x4_34 ∧ v6 = .int .i64 x6_34 ∧ v7 = .int .i64 x7_34 ∧ Aside0 (spec_ReadDec.j6 kq x4_34 x5_8 x6_34 x7_34 = some (r1, r2)) ∧ Aside0 (kq ≤ kj23) ∧ Drawn0 w wc)
            case first =>
             have H := HC35.out
             clear HC35
             by_cases c36 : x85_23 = true
             ·
              subst c36
              have H1 : (spec_ReadDec.l1 kj23 a0 (wrap64 (x4_3 + 1)) x5_8 x6_3 x7_3 100000) = some (r1, r2) := by rw [if_pos rfl] at H; exact H
              clear H
              have H := H1
              clear H1
              have H' := Aside0.mk H
              clear H
              go_wp2
              go_loopg [4, 6, 7, 8] kj23 (fun kq v4 v6 v7 v8 w' => ∃ (x4_6 : Int) (x6_6 : Int) (x7_6 : Int) (x8_6 : Int), v4 = .int .i64 x4_6 ∧ v6 = .int .i64 x6_6 ∧ v7 = .int .i64 x7_6 ∧ v8 = .int .i64 x8_6 ∧ Aside0 (spec_ReadDec.l1 kq a0 x4_6 x5_8 x6_6 x7_6 x8_6 = some (r1, r2)) ∧ Aside0 (kq ≤ kj23) ∧ Drawn0 w w')
              case atStart => exact ⟨(wrap64 (x4_3 + 1)), (x6_3), (x7_3), (100000), argK, argK, argK, argK, H', ⟨Nat.le_refl _⟩, drK⟩
              case round =>
               clear H'
               try clear c1
               try clear p1
               try clear q1
               try clear hx1
               try clear c2
               try clear p2
               try clear q2
               try clear hx2
               try clear c3
               try clear p3
               try clear q3
               try clear hx3
               try clear c4
               try clear c4b0
               try clear c5
               try clear c5b0
               try clear p6
               try clear q6
               try clear hx6
               try clear c7
               try clear c7b0
               try clear c7b1
               try clear c8
               try clear p8
               try clear q8
               try clear hx8
               try clear c10
               try clear c11
               try clear c11b0
               try clear c12
               try clear c12b0
               try clear c13
               try clear p13
               try clear q13
               try clear hx13
               try clear c15
               try clear c15b0
               try clear c16
               try clear c16b0
               try clear p17
               try clear q17
               try clear hx17
               try clear c19
               try clear c20
               try clear c20b0
               try clear c21
               try clear c21b0
               try clear p22
               try clear q22
               try clear hx22
               try clear c23
               try clear c23b0
               try clear c25
               try clear c25b0
               try clear c26
               try clear c26b0
               try clear p27
               try clear q27
               try clear hx27
               try clear c28
               try clear c28b0
               try clear c28b1
               try clear c29
               try clear c29b0
               try clear c30
               try clear c30b0
               try clear c32
               try clear c32b0
               try clear p33
               try clear q33
               try clear hx33
               try clear c36
               try clear p1
               try clear p13
               try clear p17
               try clear p2
               try clear p22
               try clear p27
               try clear p3
               try clear p33
               try clear p6
               try clear p8
               try clear q1
               try clear q13
               try clear q17
               try clear q2
               try clear q22
               try clear q27
               try clear q3
               try clear q33
               try clear q6
               try clear q8
               obtain ⟨x4_6, x6_6, x7_6, x8_6, rfl, rfl, rfl, rfl, HA, HK6, ⟨m6, rfl⟩⟩ := hrel
               cases gk with
               | zero => exact absurd HA.out (by simp [spec_ReadDec.l1])
               | succ k6 =>
                have H := HA.out
                clear HA
                simp only [spec_ReadDec.l1] at H
                by_cases c37 : x4_6 < (a0.size : Int)
                ·
                 rw [if_pos c37] at H
                 have c37b0 : decide (x4_6 < (a0.size : Int)) = true := decide_eq_true c37
                 clear c37
                 (first | rw [c37b0] | (simp only [i64_w, i32_w]; rw [c37b0]) | skip)
                 by_cases c38 : 0 ≤ x4_6
                 ·
                  rw [if_pos c38] at H
                  have c38b0 : decide (0 ≤ x4_6) = true := decide_eq_true c38
                  clear c38
                  replace H := Option.bind_eq_some_iff.mp H
                  obtain ⟨t106, A400, H⟩ := H
                  replace H : (if t106 = true then (spec_ReadDec.l1 k6 a0 (wrap64 (x4_6 + 1)) x5_8 (wrap64 (x6_6 + (wrap64 ((((bt a0 x4_6) - 48) % 256) * x8_6)))) (wrap64 (x7_6 + 1)) (wrap64 (Int.tdiv x8_6 10))) else (spec_ReadDec.j6 k6 x4_6 x5_8 x6_6 x7_6)) = some (r1, r2) := H
                  have A40 := Aside0.mk A400
                  clear A400
                  by_cases c41 : t106 = true
                  ·
                   subst c41
                   have H1 : (spec_ReadDec.l1 k6 a0 (wrap64 (x4_6 + 1)) x5_8 (wrap64 (x6_6 + (wrap64 ((((bt a0 x4_6) - 48) % 256) * x8_6)))) (wrap64 (x7_6 + 1)) (wrap64 (Int.tdiv x8_6 10))) = some (r1, r2) := by rw [if_pos rfl] at H; exact H
                   clear H
                   have H := H1
                   clear H1
                   have H' := Aside0.mk H
                   clear H
                   have p39 : 0 ≤ (x4_6 : Int) := dA
                   have q39 : x4_6 < (a0.size : Int) := dA
                   have hx39 := bt_at a0 x4_6
                   replace p39 := eq_true p39
                   replace q39 := eq_true q39
                   go_wp2_with (first | (go_at_call 10; (with_reducible refine (spec_l1digit.calls (bt a0 x4_6) true _ A40.out).mono ?_); rintro e w' ⟨rfl, ⟨nd, rfl⟩⟩; have p42 : 0 ≤ (x4_6 : Int) := dA; have q42 : x4_6 < (a0.size : Int) := dA; have hx42 := bt_at a0 x4_6; replace p42 := eq_true p42; replace q42 := eq_true q42))
                   go_roundg k6
                   case measure => have := HJ2.out; have := HJ8.out; have := HK3.out; have := HJ13.out; have := HJ23.out; have := HK6.out; omega
                   case rel => exact ⟨(wrap64 (x4_6 + 1)), (wrap64 (x6_6 + (wrap64 ((((bt a0 x4_6) - 48) % 256) * x8_6)))), (wrap64 (x7_6 + 1)), (wrap64 (Int.tdiv x8_6 10)), argK, argK, argK, argK, H', ⟨by have := HJ2.out; have := HJ8.out; have := HK3.out; have := HJ13.out; have := HJ23.out; have := HK6.out; omega⟩, drK⟩
                  ·
                   replace c41 := Bool.eq_false_iff.mpr c41
                   subst c41
                   have H1 : (spec_ReadDec.j6 k6 x4_6 x5_8 x6_6 x7_6) = some (r1, r2) := by rw [if_neg (show ¬ (false = true) by decide)] at H; exact H
                   clear H
                   have H := H1
                   clear H1
                   have H' := Aside0.mk H
                   clear H
                   have p39 : 0 ≤ (x4_6 : Int) := dA
                   have q39 : x4_6 < (a0.size : Int) := dA
                   have hx39 := bt_at a0 x4_6
                   replace p39 := eq_true p39
                   replace q39 := eq_true q39
                   go_wp2_with (first | (go_at_call 10; (with_reducible refine (spec_l1digit.calls (bt a0 x4_6) false _ A40.out).mono ?_); rintro e w' ⟨rfl, ⟨nd, rfl⟩⟩))
                   go_meet
                   case rel => exact ⟨_, (x4_6), (x6_6), (x7_6), argK, argK, argK, H', ⟨by have := HJ2.out; have := HJ8.out; have := HK3.out; have := HJ13.out; have := HJ23.out; have := HK6.out; first | omega | exact Nat.le_refl _⟩, drK⟩
                 ·
                  rw [if_neg c38] at H
                  exact absurd H (by simp)
                ·
                 rw [if_neg c37] at H
                 have c37b0 : decide (x4_6 < (a0.size : Int)) = false := decide_eq_false c37
                 clear c37
                 (first | rw [c37b0] | (simp only [i64_w, i32_w]; rw [c37b0]) | skip)
                 have H' := Aside0.mk H
                 clear H
                 go_wp2
                 go_meet
                 case rel => exact ⟨_, (x4_6), (x6_6), (x7_6), argK, argK, argK, H', ⟨by have := HJ2.out; have := HJ8.out; have := HK3.out; have := HJ13.out; have := HJ23.out; have := HK6.out; first | omega | exact Nat.le_refl _⟩, drK⟩
             ·
              replace c36 := Bool.eq_false_iff.mpr c36
              subst c36
              have H1 : (spec_ReadDec.j6 kj23 x4_3 x5_8 x6_3 x7_3) = some (r1, r2) := by rw [if_neg (show ¬ (false = true) by decide)] at H; exact H
              clear H
              have H := H1
              clear H1
              have H' := Aside0.mk H
              clear H
              go_wp2
              go_meet
              case rel => exact ⟨_, (x4_3), (x6_3), (x7_3), argK, argK, argK, H', ⟨by have := HJ2.out; have := HJ8.out; have := HK3.out; have := HJ13.out; have := HJ23.out; first | omega | exact Nat.le_refl _⟩, drK⟩
            case rest =>
             clear HC35
             try clear c1
             try clear p1
             try clear q1
             try clear hx1
             try clear c2
             try clear p2
             try clear q2
             try clear hx2
             try clear c3
             try clear p3
             try clear q3
             try clear hx3
             try clear c4
             try clear c4b0
             try clear p4
             try clear q4
             try clear hx4
             try clear c5
             try clear c5b0
             try clear p6
             try clear q6
             try clear hx6
             try clear c7
             try clear c7b0
             try clear c7b1
             try clear c8
             try clear p8
             try clear q8
             try clear hx8
             try clear c10
             try clear c11
             try clear c11b0
             try clear c12
             try clear c12b0
             try clear c13
             try clear p13
             try clear q13
             try clear hx13
             try clear c15
             try clear c15b0
             try clear c16
             try clear c16b0
             try clear p17
             try clear q17
             try clear hx17
             try clear c19
             try clear c20
             try clear c20b0
             try clear c21
             try clear c21b0
             try clear p22
             try clear q22
             try clear hx22
             try clear c23
             try clear c23b0
             try clear c25
             try clear c25b0
             try clear c26
             try clear c26b0
             try clear p27
             try clear q27
             try clear hx27
             try clear c28
             try clear c28b0
             try clear c28b1
             try clear c29
             try clear c29b0
             try clear c30
             try clear c30b0
             try clear c32
             try clear c32b0
             try clear p33
             try clear q33
             try clear hx33
             try clear c36
             try clear c37
             try clear c37b0
             try clear c38
             try clear c38b0
             try clear p39
             try clear q39
             try clear hx39
             try clear c41
             try clear p42
             try clear q42
             try clear hx42
             try clear p1
             try clear p13
             try clear p17
             try clear p2
             try clear p22
             try clear p27
             try clear p3
             try clear p33
             try clear p39
             try clear p42
             try clear p6
             try clear p8
             try clear q1
             try clear q13
             try clear q17
             try clear q2
             try clear q22
             try clear q27
             try clear q3
             try clear q33
             try clear q39
             try clear q42
             try clear q6
             try clear q8
             obtain ⟨kq, x4_34, x6_34, x7_34, rfl, rfl, rfl, HA, HJ34, ⟨mc34, rfl⟩⟩ := hcut
             cases kq with
             | zero => exact absurd HA.out (by simp [spec_ReadDec.j6])
             | succ kj34 =>
              have H := HA.out
              clear HA
              simp only [spec_ReadDec.j6] at H
              by_cases c43 : x7_34 = 0
              ·
               rw [if_pos c43] at H
               have c43b0 : (x7_34 == 0) = true := beq_iff_eq.mpr c43
               have c43b1 : (x7_34 != 0) = false := bne_eq_false_iff_eq.mpr c43
               clear c43
               simp only [Option.some.injEq, Prod.mk.injEq] at H
               obtain ⟨rfl, rfl⟩ := H
               go_wp2
               go_ret2
               exact ⟨endK, drK⟩
              ·
               rw [if_neg c43] at H
               have c43b0 : (x7_34 == 0) = false := beq_eq_false_iff_ne.mpr c43
               have c43b1 : (x7_34 != 0) = true := bne_iff_ne.mpr c43
               by_cases c44 : x6_34 > 9000000000000
               ·
                rw [if_pos c44] at H
                have c44b0 : decide (9000000000000 < x6_34) = true := decide_eq_true c44
                clear c44
                by_cases c45 : x5_8 = true
                ·
                 subst c45
                 have H1 : (some (-9000000000000, x4_34)) = some (r1, r2) := by rw [if_pos rfl] at H; exact H
                 clear H
                 have H := H1
                 clear H1
                 simp only [Option.some.injEq, Prod.mk.injEq] at H
                 obtain ⟨rfl, rfl⟩ := H
                 go_wp2
                 go_ret2
                 exact ⟨endK, drK⟩
                ·
                 replace c45 := Bool.eq_false_iff.mpr c45
                 subst c45
                 have H1 : (some (9000000000000, x4_34)) = some (r1, r2) := by rw [if_neg (show ¬ (false = true) by decide)] at H; exact H
                 clear H
                 have H := H1
                 clear H1
                 simp only [Option.some.injEq, Prod.mk.injEq] at H
                 obtain ⟨rfl, rfl⟩ := H
                 go_wp2
                 go_ret2
                 exact ⟨endK, drK⟩
               ·
                rw [if_neg c44] at H
                have c44b0 : decide (9000000000000 < x6_34) = false := decide_eq_false c44
                clear c44
                by_cases c46 : x5_8 = true
                ·
                 subst c46
                 have H1 : (some (wrap64 (-x6_34), x4_34)) = some (r1, r2) := by rw [if_pos rfl] at H; exact H
                 clear H
                 have H := H1
                 clear H1
                 simp only [Option.some.injEq, Prod.mk.injEq] at H
                 obtain ⟨rfl, rfl⟩ := H
                 go_wp2
                 go_ret2
                 exact ⟨endK, drK⟩
                ·
                 replace c46 := Bool.eq_false_iff.mpr c46
                 subst c46
                 have H1 : (some (x6_34, x4_34)) = some (r1, r2) := by rw [if_neg (show ¬ (false = true) by decide)] at H; exact H
                 clear H
                 have H := H1
                 clear H1
                 simp only [Option.some.injEq, Prod.mk.injEq] at H
                 obtain ⟨rfl, rfl⟩ := H
                 go_wp2
                 go_ret2
                 exact ⟨endK, drK⟩

end Go.Proofs.YtmddcohelcciaacDoor.PFnExactLex
