-- XPRINTED: written by a program of this session (wip/xprint), which turns the kit's print
import Derived.Test.YtmddcohelcciaacDoorPFnExactLexx0
import Derived.Test.YtmddcohelcciaacDoorPFnExactLexx7
namespace Go.Proofs.YtmddcohelcciaacDoor.PFnExactLex
open Go.RowKit Go.Proofs.YtmddcohelcciaacDoorW.PrintWords Go.Proofs.YtmddcohelcciaacDoorW.PrintLast Go.Proofs.YtmddcohelcciaacDoorW.PrintMore
attribute [local go_sem] max2_int min2_int max_two min_two max_three min_three max_four min_four   -- for this text's walks alone
set_option linter.unusedVariables false
set_option linter.unusedSimpArgs false

/-! ### impl_ReadDec: function 30 -/
mutual
def impl_ReadDec.j0 : Nat → ByteArray → Int → Bool → Bool → Option (Int × Int)
 | 0, _, _, _, _ => none
 | k + 1, x0, x4, x5, x30 => if x30 = true then (if 0 ≤ x4 then (if x4 < (x0.size : Int) then (impl_ReadDec.j1 k x0 (wrap64 (x4 + 1)) ((bt x0 x4) == 45)) else (none)) else (none)) else (impl_ReadDec.j1 k x0 x4 x5)
def impl_ReadDec.j1 : Nat → ByteArray → Int → Bool → Option (Int × Int)
 | 0, _, _, _ => none
 | k + 1, x0, x4, x5 => (impl_run_isDigit.f k x0 x4).bind fun t195 => (if 0 ≤ x4 then (if x4 ≤ (wrap64 (x4 + t195)) then (if (wrap64 (x4 + t195)) ≤ (x0.size : Int) then (if (wrap64 (x4 + t195)) < (x0.size : Int) then (if 0 ≤ (wrap64 (x4 + t195)) then (impl_ReadDec.j2 k x0 (wrap64 (x4 + t195)) x5 t195 (x0.extract (x4 : Int).toNat ((wrap64 (x4 + t195)) : Int).toNat) (⟨#[]⟩ : ByteArray) ((bt x0 (wrap64 (x4 + t195))) == 46)) else (none)) else (impl_ReadDec.j2 k x0 (wrap64 (x4 + t195)) x5 t195 (x0.extract (x4 : Int).toNat ((wrap64 (x4 + t195)) : Int).toNat) (⟨#[]⟩ : ByteArray) false)) else (none)) else (none)) else (none))
def impl_ReadDec.j2 : Nat → ByteArray → Int → Bool → Int → ByteArray → ByteArray → Bool → Option (Int × Int)
 | 0, _, _, _, _, _, _, _ => none
 | k + 1, x0, x4, x5, x6, x7, x8, x58 => if x58 = true then ((impl_run_isDigit.f k x0 (wrap64 (x4 + 1))).bind fun t196 => (if (wrap64 (x6 + t196)) > 0 then (if 0 ≤ (wrap64 (x4 + 1)) then (if (wrap64 (x4 + 1)) ≤ (wrap64 ((wrap64 (x4 + 1)) + t196)) then (if (wrap64 ((wrap64 (x4 + 1)) + t196)) ≤ (x0.size : Int) then (impl_ReadDec.j3 k (wrap64 (x4 + (wrap64 (1 + t196)))) x5 x7 (x0.extract ((wrap64 (x4 + 1)) : Int).toNat ((wrap64 ((wrap64 (x4 + 1)) + t196)) : Int).toNat)) else (none)) else (none)) else (none)) else (impl_ReadDec.j3 k x4 x5 x7 x8))) else (impl_ReadDec.j3 k x4 x5 x7 x8)
def impl_ReadDec.j3 : Nat → Int → Bool → ByteArray → ByteArray → Option (Int × Int)
 | 0, _, _, _, _ => none
 | k + 1, x4, x5, x7, x8 => if x7.toList = ([] : List UInt8) then (impl_ReadDec.j4 k x4 x5 x7 x8 (x8.toList == ([] : List UInt8))) else (impl_ReadDec.j4 k x4 x5 x7 x8 false)
def impl_ReadDec.j4 : Nat → Int → Bool → ByteArray → ByteArray → Bool → Option (Int × Int)
 | 0, _, _, _, _, _ => none
 | k + 1, x4, x5, x7, x8, x84 => if x84 = true then (some (0, 0)) else (if x8.size + 6 ≤ 9223372036854775807 then (if 0 ≤ 6 then (if 6 ≤ ((x8 ++ (⟨#[48, 48, 48, 48, 48, 48]⟩ : ByteArray)).size : Int) then (if x7.size + ((x8 ++ (⟨#[48, 48, 48, 48, 48, 48]⟩ : ByteArray)).extract 0 6).size ≤ 9223372036854775807 then (if (x7 ++ ((x8 ++ (⟨#[48, 48, 48, 48, 48, 48]⟩ : ByteArray)).extract 0 6)).size ≤ 9223372036854775807 then ((some (bytesOf (x7 ++ ((x8 ++ (⟨#[48, 48, 48, 48, 48, 48]⟩ : ByteArray)).extract 0 6)) : List Int)).bind fun y197 => (impl_ReadDec.l0 k x4 x5 0 y197 (y197.length : Int) 0)) else (none)) else (none)) else (none)) else (none)) else (none))
def impl_ReadDec.l0 : Nat → Int → Bool → Int → List Int → Int → Int → Option (Int × Int)
 | 0, _, _, _, _, _, _ => none
 | k + 1, x4, x5, x10, x90, x91, x92 => if x92 < x91 then (if 0 ≤ x92 then (if x92 < (x90.length : Int) then (impl_ReadDec.l0 k x4 x5 (mn (wrap64 ((wrap64 (x10 * 10)) + (((rd x90 x92) - 48) % 256))) 9000000000001) x90 x91 (wrap64 (x92 + 1))) else (none)) else (none)) else (if x5 = true then (some (wrap64 (-(mn x10 9000000000000)), x4)) else (some (mn x10 9000000000000, x4)))
end
def impl_ReadDec.f (k : Nat) (a0 : ByteArray) : Option (Int × Int) := (impl_run_isSpace.f k a0 0).bind fun t194 => (if t194 < (a0.size : Int) then (if 0 ≤ t194 then (if (bt a0 t194) = 43 then (impl_ReadDec.j0 k a0 t194 false true) else (impl_ReadDec.j0 k a0 t194 false ((bt a0 t194) == 45))) else (none)) else (impl_ReadDec.j0 k a0 t194 false false))
theorem impl_ReadDec.mono_l : ∀ k, (∀ y0 y1 y2 y3, LeO (impl_ReadDec.j0 k y0 y1 y2 y3) (impl_ReadDec.j0 (k + 1) y0 y1 y2 y3)) ∧ (∀ y0 y1 y2, LeO (impl_ReadDec.j1 k y0 y1 y2) (impl_ReadDec.j1 (k + 1) y0 y1 y2)) ∧ (∀ y0 y1 y2 y3 y4 y5 y6, LeO (impl_ReadDec.j2 k y0 y1 y2 y3 y4 y5 y6) (impl_ReadDec.j2 (k + 1) y0 y1 y2 y3 y4 y5 y6)) ∧ (∀ y0 y1 y2 y3, LeO (impl_ReadDec.j3 k y0 y1 y2 y3) (impl_ReadDec.j3 (k + 1) y0 y1 y2 y3)) ∧ (∀ y0 y1 y2 y3 y4, LeO (impl_ReadDec.j4 k y0 y1 y2 y3 y4) (impl_ReadDec.j4 (k + 1) y0 y1 y2 y3 y4)) ∧ (∀ y0 y1 y2 y3 y4 y5, LeO (impl_ReadDec.l0 k y0 y1 y2 y3 y4 y5) (impl_ReadDec.l0 (k + 1) y0 y1 y2 y3 y4 y5))
 | 0 => ⟨fun _ _ _ _ r h => by simp [impl_ReadDec.j0] at h, fun _ _ _ r h => by simp [impl_ReadDec.j1] at h, fun _ _ _ _ _ _ _ r h => by simp [impl_ReadDec.j2] at h, fun _ _ _ _ r h => by simp [impl_ReadDec.j3] at h, fun _ _ _ _ _ r h => by simp [impl_ReadDec.j4] at h, fun _ _ _ _ _ _ r h => by simp [impl_ReadDec.l0] at h⟩
 | k + 1 => by
  obtain ⟨ih0, ih1, ih2, ih3, ih4, ih5⟩ := impl_ReadDec.mono_l k
  refine ⟨?_, ?_, ?_, ?_, ?_, ?_⟩
  ·
   intro y0 y1 y2 y3
   unfold impl_ReadDec.j0
   repeat' first
   | (with_reducible exact ih0 _ _ _ _)
   | (with_reducible exact ih1 _ _ _)
   | (with_reducible exact ih2 _ _ _ _ _ _ _)
   | (with_reducible exact ih3 _ _ _ _)
   | (with_reducible exact ih4 _ _ _ _ _)
   | (with_reducible exact ih5 _ _ _ _ _ _)
   | (with_reducible exact impl_run_isDigit.mono _ _ _)
   | (with_reducible exact impl_run_isSpace.mono _ _ _)
   | (with_reducible exact LeO.refl _)
   | (with_reducible exact LeO.none _)
   | (with_reducible refine LeO.ite ?_ ?_)
   | (with_reducible refine LeO.bind ?_ (fun _ => ?_))
   | exact ih0 _ _ _ _
   | exact ih1 _ _ _
   | exact ih2 _ _ _ _ _ _ _
   | exact ih3 _ _ _ _
   | exact ih4 _ _ _ _ _
   | exact ih5 _ _ _ _ _ _
   | exact impl_run_isDigit.mono _ _ _
   | exact impl_run_isSpace.mono _ _ _
   | exact LeO.none _
   | refine LeO.ite ?_ ?_
   | refine LeO.bind ?_ (fun _ => ?_)
  ·
   intro y0 y1 y2
   unfold impl_ReadDec.j1
   repeat' first
   | (with_reducible exact ih0 _ _ _ _)
   | (with_reducible exact ih1 _ _ _)
   | (with_reducible exact ih2 _ _ _ _ _ _ _)
   | (with_reducible exact ih3 _ _ _ _)
   | (with_reducible exact ih4 _ _ _ _ _)
   | (with_reducible exact ih5 _ _ _ _ _ _)
   | (with_reducible exact impl_run_isDigit.mono _ _ _)
   | (with_reducible exact impl_run_isSpace.mono _ _ _)
   | (with_reducible exact LeO.refl _)
   | (with_reducible exact LeO.none _)
   | (with_reducible refine LeO.ite ?_ ?_)
   | (with_reducible refine LeO.bind ?_ (fun _ => ?_))
   | exact ih0 _ _ _ _
   | exact ih1 _ _ _
   | exact ih2 _ _ _ _ _ _ _
   | exact ih3 _ _ _ _
   | exact ih4 _ _ _ _ _
   | exact ih5 _ _ _ _ _ _
   | exact impl_run_isDigit.mono _ _ _
   | exact impl_run_isSpace.mono _ _ _
   | exact LeO.none _
   | refine LeO.ite ?_ ?_
   | refine LeO.bind ?_ (fun _ => ?_)
  ·
   intro y0 y1 y2 y3 y4 y5 y6
   unfold impl_ReadDec.j2
   repeat' first
   | (with_reducible exact ih0 _ _ _ _)
   | (with_reducible exact ih1 _ _ _)
   | (with_reducible exact ih2 _ _ _ _ _ _ _)
   | (with_reducible exact ih3 _ _ _ _)
   | (with_reducible exact ih4 _ _ _ _ _)
   | (with_reducible exact ih5 _ _ _ _ _ _)
   | (with_reducible exact impl_run_isDigit.mono _ _ _)
   | (with_reducible exact impl_run_isSpace.mono _ _ _)
   | (with_reducible exact LeO.refl _)
   | (with_reducible exact LeO.none _)
   | (with_reducible refine LeO.ite ?_ ?_)
   | (with_reducible refine LeO.bind ?_ (fun _ => ?_))
   | exact ih0 _ _ _ _
   | exact ih1 _ _ _
   | exact ih2 _ _ _ _ _ _ _
   | exact ih3 _ _ _ _
   | exact ih4 _ _ _ _ _
   | exact ih5 _ _ _ _ _ _
   | exact impl_run_isDigit.mono _ _ _
   | exact impl_run_isSpace.mono _ _ _
   | exact LeO.none _
   | refine LeO.ite ?_ ?_
   | refine LeO.bind ?_ (fun _ => ?_)
  ·
   intro y0 y1 y2 y3
   unfold impl_ReadDec.j3
   repeat' first
   | (with_reducible exact ih0 _ _ _ _)
   | (with_reducible exact ih1 _ _ _)
   | (with_reducible exact ih2 _ _ _ _ _ _ _)
   | (with_reducible exact ih3 _ _ _ _)
   | (with_reducible exact ih4 _ _ _ _ _)
   | (with_reducible exact ih5 _ _ _ _ _ _)
   | (with_reducible exact impl_run_isDigit.mono _ _ _)
   | (with_reducible exact impl_run_isSpace.mono _ _ _)
   | (with_reducible exact LeO.refl _)
   | (with_reducible exact LeO.none _)
   | (with_reducible refine LeO.ite ?_ ?_)
   | (with_reducible refine LeO.bind ?_ (fun _ => ?_))
   | exact ih0 _ _ _ _
   | exact ih1 _ _ _
   | exact ih2 _ _ _ _ _ _ _
   | exact ih3 _ _ _ _
   | exact ih4 _ _ _ _ _
   | exact ih5 _ _ _ _ _ _
   | exact impl_run_isDigit.mono _ _ _
   | exact impl_run_isSpace.mono _ _ _
   | exact LeO.none _
   | refine LeO.ite ?_ ?_
   | refine LeO.bind ?_ (fun _ => ?_)
  ·
   intro y0 y1 y2 y3 y4
   unfold impl_ReadDec.j4
   repeat' first
   | (with_reducible exact ih0 _ _ _ _)
   | (with_reducible exact ih1 _ _ _)
   | (with_reducible exact ih2 _ _ _ _ _ _ _)
   | (with_reducible exact ih3 _ _ _ _)
   | (with_reducible exact ih4 _ _ _ _ _)
   | (with_reducible exact ih5 _ _ _ _ _ _)
   | (with_reducible exact impl_run_isDigit.mono _ _ _)
   | (with_reducible exact impl_run_isSpace.mono _ _ _)
   | (with_reducible exact LeO.refl _)
   | (with_reducible exact LeO.none _)
   | (with_reducible refine LeO.ite ?_ ?_)
   | (with_reducible refine LeO.bind ?_ (fun _ => ?_))
   | exact ih0 _ _ _ _
   | exact ih1 _ _ _
   | exact ih2 _ _ _ _ _ _ _
   | exact ih3 _ _ _ _
   | exact ih4 _ _ _ _ _
   | exact ih5 _ _ _ _ _ _
   | exact impl_run_isDigit.mono _ _ _
   | exact impl_run_isSpace.mono _ _ _
   | exact LeO.none _
   | refine LeO.ite ?_ ?_
   | refine LeO.bind ?_ (fun _ => ?_)
  ·
   intro y0 y1 y2 y3 y4 y5
   unfold impl_ReadDec.l0
   repeat' first
   | (with_reducible exact ih0 _ _ _ _)
   | (with_reducible exact ih1 _ _ _)
   | (with_reducible exact ih2 _ _ _ _ _ _ _)
   | (with_reducible exact ih3 _ _ _ _)
   | (with_reducible exact ih4 _ _ _ _ _)
   | (with_reducible exact ih5 _ _ _ _ _ _)
   | (with_reducible exact impl_run_isDigit.mono _ _ _)
   | (with_reducible exact impl_run_isSpace.mono _ _ _)
   | (with_reducible exact LeO.refl _)
   | (with_reducible exact LeO.none _)
   | (with_reducible refine LeO.ite ?_ ?_)
   | (with_reducible refine LeO.bind ?_ (fun _ => ?_))
   | exact ih0 _ _ _ _
   | exact ih1 _ _ _
   | exact ih2 _ _ _ _ _ _ _
   | exact ih3 _ _ _ _
   | exact ih4 _ _ _ _ _
   | exact ih5 _ _ _ _ _ _
   | exact impl_run_isDigit.mono _ _ _
   | exact impl_run_isSpace.mono _ _ _
   | exact LeO.none _
   | refine LeO.ite ?_ ?_
   | refine LeO.bind ?_ (fun _ => ?_)
theorem impl_ReadDec.mono : ∀ a0 k, LeO (impl_ReadDec.f k a0) (impl_ReadDec.f (k + 1) a0) := by
 intro a0 k
 obtain ⟨ih0, ih1, ih2, ih3, ih4, ih5⟩ := impl_ReadDec.mono_l k
 unfold impl_ReadDec.f
 repeat' first
   | (with_reducible exact ih0 _ _ _ _)
   | (with_reducible exact ih1 _ _ _)
   | (with_reducible exact ih2 _ _ _ _ _ _ _)
   | (with_reducible exact ih3 _ _ _ _)
   | (with_reducible exact ih4 _ _ _ _ _)
   | (with_reducible exact ih5 _ _ _ _ _ _)
   | (with_reducible exact impl_run_isDigit.mono _ _ _)
   | (with_reducible exact impl_run_isSpace.mono _ _ _)
   | (with_reducible exact LeO.refl _)
   | (with_reducible exact LeO.none _)
   | (with_reducible refine LeO.ite ?_ ?_)
   | (with_reducible refine LeO.bind ?_ (fun _ => ?_))
   | exact ih0 _ _ _ _
   | exact ih1 _ _ _
   | exact ih2 _ _ _ _ _ _ _
   | exact ih3 _ _ _ _
   | exact ih4 _ _ _ _ _
   | exact ih5 _ _ _ _ _ _
   | exact impl_run_isDigit.mono _ _ _
   | exact impl_run_isSpace.mono _ _ _
   | exact LeO.none _
   | refine LeO.ite ?_ ?_
   | refine LeO.bind ?_ (fun _ => ?_)
set_option maxHeartbeats 8000000 in
set_option maxRecDepth 100000 in
theorem impl_ReadDec.calls (k : Nat) (a0 : ByteArray) (r1 : Int) (r2 : Int) (w : World) (h : impl_ReadDec.f k a0 = some (r1, r2)) :
  Calls Tryd.prog 30 #[.string a0] w fun e w' => e = .returned (.tuple #[.int .i64 r1, .int .i64 r2]) ∧ Below w.heap.size w w' := by
 have HB := Aside0.mk (Below.refl w.heap.size w)
 have H : ((impl_run_isSpace.f k a0 0).bind fun t194 => (if t194 < (a0.size : Int) then (if 0 ≤ t194 then (if (bt a0 t194) = 43 then (impl_ReadDec.j0 k a0 t194 false true) else (impl_ReadDec.j0 k a0 t194 false ((bt a0 t194) == 45))) else (none)) else (impl_ReadDec.j0 k a0 t194 false false))) = some (r1, r2) := h
 clear h
 replace H := Option.bind_eq_some_iff.mp H
 obtain ⟨t194, A20, H⟩ := H
 replace H : (if t194 < (a0.size : Int) then (if 0 ≤ t194 then (if (bt a0 t194) = 43 then (impl_ReadDec.j0 k a0 t194 false true) else (impl_ReadDec.j0 k a0 t194 false ((bt a0 t194) == 45))) else (none)) else (impl_ReadDec.j0 k a0 t194 false false)) = some (r1, r2) := H
 have A2 := Aside0.mk A20
 clear A20
 have HC3 := Aside0.mk H
 clear H
 go_enter Tryd.func30, Tryd.ntmps30
 go_upto_region 3 with (first | ((with_reducible refine gate_callee (f := 19) rfl ?_); refine goesL_ (some 14) rfl rfl Tryd.func19 (by kernel_rfl) rfl #[.string a0, .int .i64 0, (.func (.func 18) #[] #[])] rfl mapK ?_; (with_reducible refine (impl_run_isSpace.calls k a0 0  t194 _ A2.out).mono ?_); rintro e w' ⟨rfl, ⟨nd, rfl⟩⟩; refine ⟨_, rfl, ?_⟩))
 (try simp only [Act.put, List.setIfInBounds_toArray, List.set_cons_zero, List.set_cons_succ])
 go_cut [30] (fun v30 wc => ∃ (kq : Nat) (x30_2 : Bool), v30 = .bool x30_2 ∧ Aside0 (impl_ReadDec.j0 kq a0 t194 false x30_2 = some (r1, r2)) ∧ Aside0 (kq ≤ k) ∧ Aside0 (Below w.heap.size w wc))
 case first =>
  have H := HC3.out
  clear HC3
  by_cases c4 : t194 < (a0.size : Int)
  ·
   rw [if_pos c4] at H
   have c4b0 : decide (t194 < (a0.size : Int)) = true := decide_eq_true c4
   clear c4
   (first | rw [c4b0] | (simp only [i64_w, i32_w]; rw [c4b0]) | skip)
   by_cases c5 : 0 ≤ t194
   ·
    rw [if_pos c5] at H
    have c5b0 : decide (0 ≤ t194) = true := decide_eq_true c5
    clear c5
    by_cases c7 : (bt a0 t194) = 43
    ·
     rw [if_pos c7] at H
     have c7b0 : ((bt a0 t194) == 43) = true := beq_iff_eq.mpr c7
     have c7b1 : ((bt a0 t194) != 43) = false := bne_eq_false_iff_eq.mpr c7
     clear c7
     have H' := Aside0.mk H
     clear H
     have p6 : 0 ≤ (t194 : Int) := dA
     have q6 : t194 < (a0.size : Int) := dA
     have hx6 := bt_at a0 t194
     replace p6 := eq_true p6
     replace q6 := eq_true q6
     go_wp2
     go_meet
     case rel => exact ⟨_, (true), argK, H', ⟨by first | omega | exact Nat.le_refl _⟩, ⟨carH HB.out⟩⟩
    ·
     rw [if_neg c7] at H
     have c7b0 : ((bt a0 t194) == 43) = false := beq_eq_false_iff_ne.mpr c7
     have c7b1 : ((bt a0 t194) != 43) = true := bne_iff_ne.mpr c7
     have H' := Aside0.mk H
     clear H
     have p6 : 0 ≤ (t194 : Int) := dA
     have q6 : t194 < (a0.size : Int) := dA
     have hx6 := bt_at a0 t194
     replace p6 := eq_true p6
     replace q6 := eq_true q6
     have p8 : 0 ≤ (t194 : Int) := dA
     have q8 : t194 < (a0.size : Int) := dA
     have hx8 := bt_at a0 t194
     replace p8 := eq_true p8
     replace q8 := eq_true q8
     go_wp2
     go_meet
     case rel => exact ⟨_, (((bt a0 t194) == 45)), argK, H', ⟨by first | omega | exact Nat.le_refl _⟩, ⟨carH HB.out⟩⟩
   ·
    rw [if_neg c5] at H
    exact absurd H (by simp)
  ·
   rw [if_neg c4] at H
   have c4b0 : decide (t194 < (a0.size : Int)) = false := decide_eq_false c4
   clear c4
   (first | rw [c4b0] | (simp only [i64_w, i32_w]; rw [c4b0]) | skip)
   have H' := Aside0.mk H
   clear H
   go_wp2
   go_meet
   case rel => exact ⟨_, (false), argK, H', ⟨by first | omega | exact Nat.le_refl _⟩, ⟨carH HB.out⟩⟩
 case rest =>
  clear HC3
  try clear p2
  try clear c3
  try clear c4
  try clear c4b0
  try clear c5
  try clear c5b0
  try clear p6
  try clear q6
  try clear hx6
  try clear c7
  try clear c7b0
  try clear c7b1
  try clear p8
  try clear q8
  try clear hx8
  try clear p6
  try clear p8
  try clear q6
  try clear q8
  obtain ⟨kq, x30_2, rfl, HA, HJ2, HB⟩ := hcut
  cases kq with
  | zero => exact absurd HA.out (by simp [impl_ReadDec.j0])
  | succ kj2 =>
   have H := HA.out
   clear HA
   simp only [impl_ReadDec.j0] at H
   have HC9 := Aside0.mk H
   clear H
   go_upto_if 30 with (fail)
   go_cut [4, 5] (fun v4 v5 wc => ∃ (kq : Nat) (x4_8 : Int) (x5_8 : Bool), v4 = .int .i64 x4_8 ∧ v5 = .bool x5_8 ∧ Aside0 (impl_ReadDec.j1 kq a0 x4_8 x5_8 = some (r1, r2)) ∧ Aside0 (kq ≤ kj2) ∧ Aside0 (Below w.heap.size w wc))
   case first =>
    have H := HC9.out
    clear HC9
    by_cases c10 : x30_2 = true
    ·
     subst c10
     have H1 : (if 0 ≤ t194 then (if t194 < (a0.size : Int) then (impl_ReadDec.j1 kj2 a0 (wrap64 (t194 + 1)) ((bt a0 t194) == 45)) else (none)) else (none)) = some (r1, r2) := by rw [if_pos rfl] at H; exact H
     clear H
     have H := H1
     clear H1
     by_cases c11 : 0 ≤ t194
     ·
      rw [if_pos c11] at H
      have c11b0 : decide (0 ≤ t194) = true := decide_eq_true c11
      clear c11
      (first | rw [c11b0] | (simp only [i64_w, i32_w]; rw [c11b0]) | skip)
      by_cases c12 : t194 < (a0.size : Int)
      ·
       rw [if_pos c12] at H
       have c12b0 : decide (t194 < (a0.size : Int)) = true := decide_eq_true c12
       clear c12
       have H' := Aside0.mk H
       clear H
       have p13 : 0 ≤ (t194 : Int) := dA
       have q13 : t194 < (a0.size : Int) := dA
       have hx13 := bt_at a0 t194
       replace p13 := eq_true p13
       replace q13 := eq_true q13
       go_wp2
       go_meet
       case rel => exact ⟨_, (wrap64 (t194 + 1)), (((bt a0 t194) == 45)), argK, argK, H', ⟨by have := HJ2.out; first | omega | exact Nat.le_refl _⟩, ⟨carH HB.out⟩⟩
      ·
       rw [if_neg c12] at H
       exact absurd H (by simp)
     ·
      rw [if_neg c11] at H
      exact absurd H (by simp)
    ·
     replace c10 := Bool.eq_false_iff.mpr c10
     subst c10
     have H1 : (impl_ReadDec.j1 kj2 a0 t194 false) = some (r1, r2) := by rw [if_neg (show ¬ (false = true) by decide)] at H; exact H
     clear H
     have H := H1
     clear H1
     have H' := Aside0.mk H
     clear H
     go_wp2
     go_meet
     case rel => exact ⟨_, (t194), (false), argK, argK, H', ⟨by have := HJ2.out; first | omega | exact Nat.le_refl _⟩, ⟨carH HB.out⟩⟩
   case rest =>
    clear HC9
    try clear c1
    try clear p1
    try clear q1
    try clear hx1
    try clear p2
    try clear c3
    try clear c4
    try clear c4b0
    try clear c5
    try clear c5b0
    try clear p6
    try clear q6
    try clear hx6
    try clear c7
    try clear c7b0
    try clear c7b1
    try clear p8
    try clear q8
    try clear hx8
    try clear c10
    try clear c11
    try clear c11b0
    try clear c12
    try clear c12b0
    try clear p13
    try clear q13
    try clear hx13
    try clear p13
    try clear p2
    try clear p6
    try clear p8
    try clear q13
    try clear q6
    try clear q8
    obtain ⟨kq, x4_8, x5_8, rfl, rfl, HA, HJ8, HB⟩ := hcut
    cases kq with
    | zero => exact absurd HA.out (by simp [impl_ReadDec.j1])
    | succ kj8 =>
     have H := HA.out
     clear HA
     simp only [impl_ReadDec.j1] at H
     replace H := Option.bind_eq_some_iff.mp H
     obtain ⟨t195, A140, H⟩ := H
     replace H : (if 0 ≤ x4_8 then (if x4_8 ≤ (wrap64 (x4_8 + t195)) then (if (wrap64 (x4_8 + t195)) ≤ (a0.size : Int) then (if (wrap64 (x4_8 + t195)) < (a0.size : Int) then (if 0 ≤ (wrap64 (x4_8 + t195)) then (impl_ReadDec.j2 kj8 a0 (wrap64 (x4_8 + t195)) x5_8 t195 (a0.extract (x4_8 : Int).toNat ((wrap64 (x4_8 + t195)) : Int).toNat) (⟨#[]⟩ : ByteArray) ((bt a0 (wrap64 (x4_8 + t195))) == 46)) else (none)) else (impl_ReadDec.j2 kj8 a0 (wrap64 (x4_8 + t195)) x5_8 t195 (a0.extract (x4_8 : Int).toNat ((wrap64 (x4_8 + t195)) : Int).toNat) (⟨#[]⟩ : ByteArray) false)) else (none)) else (none)) else (none)) = some (r1, r2) := H
     have A14 := Aside0.mk A140
     clear A140
     by_cases c15 : 0 ≤ x4_8
     ·
      rw [if_pos c15] at H
      have c15b0 := eq_true c15
      have c15b1 : decide (0 ≤ x4_8) = true := decide_eq_true c15
      clear c15
      by_cases c16 : x4_8 ≤ (wrap64 (x4_8 + t195))
      ·
       rw [if_pos c16] at H
       have c16b0 := eq_true c16
       have c16b1 : decide (x4_8 ≤ (wrap64 (x4_8 + t195))) = true := decide_eq_true c16
       by_cases c17 : (wrap64 (x4_8 + t195)) ≤ (a0.size : Int)
       ·
        rw [if_pos c17] at H
        have c17b0 := eq_true c17
        have c17b1 : decide ((wrap64 (x4_8 + t195)) ≤ (a0.size : Int)) = true := decide_eq_true c17
        have HC18 := Aside0.mk H
        clear H
        go_upto_region 10 with (first | ((with_reducible refine gate_callee (f := 19) rfl ?_); refine goesL_ (some 39) rfl rfl Tryd.func19 (by kernel_rfl) rfl #[.string a0, .int .i64 x4_8, (.func (.func 29) #[] #[])] rfl mapK ?_; (with_reducible refine (impl_run_isDigit.calls kj8 a0 x4_8  t195 _ A14.out).mono ?_); rintro e w' ⟨rfl, ⟨nd, rfl⟩⟩; refine ⟨_, rfl, ?_⟩))
        (try simp only [Act.put, List.setIfInBounds_toArray, List.set_cons_zero, List.set_cons_succ])
        go_cut [58] (fun v58 wc => ∃ (kq : Nat) (x58_17 : Bool), v58 = .bool x58_17 ∧ Aside0 (impl_ReadDec.j2 kq a0 (wrap64 (x4_8 + t195)) x5_8 t195 (a0.extract (x4_8 : Int).toNat ((wrap64 (x4_8 + t195)) : Int).toNat) (⟨#[]⟩ : ByteArray) x58_17 = some (r1, r2)) ∧ Aside0 (kq ≤ kj8) ∧ Aside0 (Below w.heap.size w wc))
        case first =>
         have H := HC18.out
         clear HC18
         by_cases c19 : (wrap64 (x4_8 + t195)) < (a0.size : Int)
         ·
          rw [if_pos c19] at H
          have c19b0 : decide ((wrap64 (x4_8 + t195)) < (a0.size : Int)) = true := decide_eq_true c19
          clear c19
          (first | rw [c19b0] | (simp only [i64_w, i32_w]; rw [c19b0]) | skip)
          obtain ⟨ji20, hji20⟩ : ∃ j_ : Int, (wrap64 (x4_8 + t195)) = j_ := ⟨_, rfl⟩
          replace H : (if 0 ≤ (ji20) then (impl_ReadDec.j2 kj8 a0 ji20 x5_8 t195 (a0.extract (x4_8 : Int).toNat ((ji20) : Int).toNat) (⟨#[]⟩ : ByteArray) ((bt a0 (ji20)) == 46)) else (none)) = some (r1, r2) := by first | (rw [hji20] at H; exact H) | (simp only [hji20] at H ⊢; exact H)
          (try rw [hji20] at c16b0)
          (try rw [hji20] at c16b1)
          (try rw [hji20] at c16)
          (try rw [hji20] at c17b0)
          (try rw [hji20] at c17b1)
          (try rw [hji20] at c17)
          (try rw [hji20] at c19b0)
          have hji20w : (IntKind.i64.wrap (x4_8 + t195)) = ji20 := (i64_w _).trans hji20
          by_cases c21 : 0 ≤ (ji20)
          ·
           rw [if_pos c21] at H
           have c21b0 : decide (0 ≤ (ji20)) = true := decide_eq_true c21
           clear c21
           have H' := Aside0.mk H
           clear H
           have p22 : 0 ≤ ((ji20) : Int) := dA
           have q22 : (ji20) < (a0.size : Int) := dA
           have hx22 := bt_at a0 (ji20)
           replace p22 := eq_true p22
           replace q22 := eq_true q22
           go_wp2
           go_meet
           case rel => exact ⟨_, (((bt a0 (ji20)) == 46)), (by first | rfl | (simp; done) | (simp only [← hji20] <;> (first | rfl | simp)) | (simp [*]; done)), (by first | exact H' | (simp only [hji20]; exact H') | (simp only [hji20] at H' ⊢; exact H')), ⟨by have := HJ2.out; have := HJ8.out; first | omega | exact Nat.le_refl _⟩, ⟨carH HB.out⟩⟩
          ·
           rw [if_neg c21] at H
           exact absurd H (by simp)
         ·
          rw [if_neg c19] at H
          have c19b0 : decide ((wrap64 (x4_8 + t195)) < (a0.size : Int)) = false := decide_eq_false c19
          clear c19
          (first | rw [c19b0] | (simp only [i64_w, i32_w]; rw [c19b0]) | skip)
          have H' := Aside0.mk H
          clear H
          go_wp2
          go_meet
          case rel => exact ⟨_, (false), argK, H', ⟨by have := HJ2.out; have := HJ8.out; first | omega | exact Nat.le_refl _⟩, ⟨carH HB.out⟩⟩
        case rest =>
         clear HC18
         try clear c1
         try clear p1
         try clear q1
         try clear hx1
         try clear c2
         try clear p2
         try clear q2
         try clear hx2
         try clear c3
         try clear c4
         try clear c4b0
         try clear c5
         try clear c5b0
         try clear p6
         try clear q6
         try clear hx6
         try clear c7
         try clear c7b0
         try clear c7b1
         try clear p8
         try clear q8
         try clear hx8
         try clear c10
         try clear c11
         try clear c11b0
         try clear c12
         try clear c12b0
         try clear p13
         try clear q13
         try clear hx13
         try clear c15
         try clear c15b0
         try clear c15b1
         try clear c16
         try clear c16b0
         try clear c16b1
         try clear c17
         try clear c17b0
         try clear c17b1
         try clear c19
         try clear c19b0
         try clear c21
         try clear c21b0
         try clear p22
         try clear q22
         try clear hx22
         try clear p1
         try clear p13
         try clear p2
         try clear p22
         try clear p6
         try clear p8
         try clear q1
         try clear q13
         try clear q22
         try clear q6
         try clear q8
         obtain ⟨kq, x58_17, rfl, HA, HJ17, HB⟩ := hcut
         cases kq with
         | zero => exact absurd HA.out (by simp [impl_ReadDec.j2])
         | succ kj17 =>
          have H := HA.out
          clear HA
          simp only [impl_ReadDec.j2] at H
          have HC23 := Aside0.mk H
          clear H
          go_upto_if 58 with (fail)
          go_cut [4, 8] (fun v4 v8 wc => ∃ (kq : Nat) (x4_22 : Int) (x8_22 : ByteArray), v4 = .int .i64 x4_22 ∧ v8 = .string x8_22 ∧ Aside0 (impl_ReadDec.j3 kq x4_22 x5_8 (a0.extract (x4_8 : Int).toNat ((wrap64 (x4_8 + t195)) : Int).toNat) x8_22 = some (r1, r2)) ∧ Aside0 (kq ≤ kj17) ∧ Aside0 (Below w.heap.size w wc))
          case first =>
           have H := HC23.out
           clear HC23
           by_cases c24 : x58_17 = true
           ·
            subst c24
            have H1 : ((impl_run_isDigit.f kj17 a0 (wrap64 ((wrap64 (x4_8 + t195)) + 1))).bind fun t196 => (if (wrap64 (t195 + t196)) > 0 then (if 0 ≤ (wrap64 ((wrap64 (x4_8 + t195)) + 1)) then (if (wrap64 ((wrap64 (x4_8 + t195)) + 1)) ≤ (wrap64 ((wrap64 ((wrap64 (x4_8 + t195)) + 1)) + t196)) then (if (wrap64 ((wrap64 ((wrap64 (x4_8 + t195)) + 1)) + t196)) ≤ (a0.size : Int) then (impl_ReadDec.j3 kj17 (wrap64 ((wrap64 (x4_8 + t195)) + (wrap64 (1 + t196)))) x5_8 (a0.extract (x4_8 : Int).toNat ((wrap64 (x4_8 + t195)) : Int).toNat) (a0.extract ((wrap64 ((wrap64 (x4_8 + t195)) + 1)) : Int).toNat ((wrap64 ((wrap64 ((wrap64 (x4_8 + t195)) + 1)) + t196)) : Int).toNat)) else (none)) else (none)) else (none)) else (impl_ReadDec.j3 kj17 (wrap64 (x4_8 + t195)) x5_8 (a0.extract (x4_8 : Int).toNat ((wrap64 (x4_8 + t195)) : Int).toNat) (⟨#[]⟩ : ByteArray)))) = some (r1, r2) := by rw [if_pos rfl] at H; exact H
            clear H
            have H := H1
            clear H1
            replace H := Option.bind_eq_some_iff.mp H
            obtain ⟨t196, A250, H⟩ := H
            replace H : (if (wrap64 (t195 + t196)) > 0 then (if 0 ≤ (wrap64 ((wrap64 (x4_8 + t195)) + 1)) then (if (wrap64 ((wrap64 (x4_8 + t195)) + 1)) ≤ (wrap64 ((wrap64 ((wrap64 (x4_8 + t195)) + 1)) + t196)) then (if (wrap64 ((wrap64 ((wrap64 (x4_8 + t195)) + 1)) + t196)) ≤ (a0.size : Int) then (impl_ReadDec.j3 kj17 (wrap64 ((wrap64 (x4_8 + t195)) + (wrap64 (1 + t196)))) x5_8 (a0.extract (x4_8 : Int).toNat ((wrap64 (x4_8 + t195)) : Int).toNat) (a0.extract ((wrap64 ((wrap64 (x4_8 + t195)) + 1)) : Int).toNat ((wrap64 ((wrap64 ((wrap64 (x4_8 + t195)) + 1)) + t196)) : Int).toNat)) else (none)) else (none)) else (none)) else (impl_ReadDec.j3 kj17 (wrap64 (x4_8 + t195)) x5_8 (a0.extract (x4_8 : Int).toNat ((wrap64 (x4_8 + t195)) : Int).toNat) (⟨#[]⟩ : ByteArray))) = some (r1, r2) := H
            have A25 := Aside0.mk A250
            clear A250
            by_cases c26 : (wrap64 (t195 + t196)) > 0
            ·
             rw [if_pos c26] at H
             have c26b0 : decide (0 < (wrap64 (t195 + t196))) = true := decide_eq_true c26
             clear c26
             (first | rw [c26b0] | (simp only [i64_w, i32_w]; rw [c26b0]) | skip)
             obtain ⟨ji27, hji27⟩ : ∃ j_ : Int, (wrap64 ((wrap64 (x4_8 + t195)) + 1)) = j_ := ⟨_, rfl⟩
             replace H : (if 0 ≤ (ji27) then (if (ji27) ≤ (wrap64 ((ji27) + t196)) then (if (wrap64 ((ji27) + t196)) ≤ (a0.size : Int) then (impl_ReadDec.j3 kj17 (wrap64 ((wrap64 (x4_8 + t195)) + (wrap64 (1 + t196)))) x5_8 (a0.extract (x4_8 : Int).toNat ((wrap64 (x4_8 + t195)) : Int).toNat) (a0.extract ((ji27) : Int).toNat ((wrap64 ((ji27) + t196)) : Int).toNat)) else (none)) else (none)) else (none)) = some (r1, r2) := by first | (rw [hji27] at H; exact H) | (simp only [hji27] at H ⊢; exact H)
             (try rw [hji27] at A25)
             have hji27w : (IntKind.i64.wrap ((wrap64 (x4_8 + t195)) + 1)) = ji27 := (i64_w _).trans hji27
             by_cases c28 : 0 ≤ (ji27)
             ·
              rw [if_pos c28] at H
              have c28b0 := eq_true c28
              have c28b1 : decide (0 ≤ (ji27)) = true := decide_eq_true c28
              clear c28
              by_cases c29 : (ji27) ≤ (wrap64 ((ji27) + t196))
              ·
               rw [if_pos c29] at H
               have c29b0 := eq_true c29
               have c29b1 : decide ((ji27) ≤ (wrap64 ((ji27) + t196))) = true := decide_eq_true c29
               by_cases c30 : (wrap64 ((ji27) + t196)) ≤ (a0.size : Int)
               ·
                rw [if_pos c30] at H
                have c30b0 := eq_true c30
                have c30b1 : decide ((wrap64 ((ji27) + t196)) ≤ (a0.size : Int)) = true := decide_eq_true c30
                have H' := Aside0.mk H
                clear H
                go_wp2_with (first | ((with_reducible refine gate_callee (f := 19) rfl ?_); refine goesL_ (some 62) rfl rfl Tryd.func19 (by kernel_rfl) rfl #[.string a0, .int .i64 ji27, (.func (.func 29) #[] #[])] rfl (by (try simp only [List.map_toArray, List.map_cons, List.map_nil]); first | done | (simp only [hji27]; rfl) | rfl | (simp only [List.length_drop, List.length_take]; rfl)) ?_; (with_reducible refine (impl_run_isDigit.calls kj17 a0 ji27  t196 _ A25.out).mono ?_); rintro e w' ⟨rfl, ⟨nd, rfl⟩⟩; refine ⟨_, rfl, ?_⟩))
                go_meet
                case rel => exact ⟨_, (wrap64 ((wrap64 (x4_8 + t195)) + (wrap64 (1 + t196)))), (a0.extract ((ji27) : Int).toNat ((wrap64 ((ji27) + t196)) : Int).toNat), argK, (by first | rfl | (simp; done) | (simp only [← hji27] <;> (first | rfl | simp)) | (simp [*]; done)), (by first | exact H' | (simp only [hji27]; exact H') | (simp only [hji27] at H' ⊢; exact H')), ⟨by have := HJ2.out; have := HJ8.out; have := HJ17.out; first | omega | exact Nat.le_refl _⟩, ⟨carH HB.out⟩⟩
               ·
                rw [if_neg c30] at H
                exact absurd H (by simp)
              ·
               rw [if_neg c29] at H
               exact absurd H (by simp)
             ·
              rw [if_neg c28] at H
              exact absurd H (by simp)
            ·
             rw [if_neg c26] at H
             have c26b0 : decide (0 < (wrap64 (t195 + t196))) = false := decide_eq_false c26
             clear c26
             (first | rw [c26b0] | (simp only [i64_w, i32_w]; rw [c26b0]) | skip)
             have H' := Aside0.mk H
             clear H
             go_wp2_with (first | ((with_reducible refine gate_callee (f := 19) rfl ?_); refine goesL_ (some 62) rfl rfl Tryd.func19 (by kernel_rfl) rfl #[.string a0, .int .i64 (wrap64 ((wrap64 (x4_8 + t195)) + 1)), (.func (.func 29) #[] #[])] rfl mapK ?_; (with_reducible refine (impl_run_isDigit.calls kj17 a0 (wrap64 ((wrap64 (x4_8 + t195)) + 1))  t196 _ A25.out).mono ?_); rintro e w' ⟨rfl, ⟨nd, rfl⟩⟩; refine ⟨_, rfl, ?_⟩))
             go_meet
             case rel => exact ⟨_, ((wrap64 (x4_8 + t195))), ((⟨#[]⟩ : ByteArray)), argK, argK, H', ⟨by have := HJ2.out; have := HJ8.out; have := HJ17.out; first | omega | exact Nat.le_refl _⟩, ⟨carH HB.out⟩⟩
           ·
            replace c24 := Bool.eq_false_iff.mpr c24
            subst c24
            have H1 : (impl_ReadDec.j3 kj17 (wrap64 (x4_8 + t195)) x5_8 (a0.extract (x4_8 : Int).toNat ((wrap64 (x4_8 + t195)) : Int).toNat) (⟨#[]⟩ : ByteArray)) = some (r1, r2) := by rw [if_neg (show ¬ (false = true) by decide)] at H; exact H
            clear H
            have H := H1
            clear H1
            have H' := Aside0.mk H
            clear H
            go_wp2
            go_meet
            case rel => exact ⟨_, ((wrap64 (x4_8 + t195))), ((⟨#[]⟩ : ByteArray)), argK, argK, H', ⟨by have := HJ2.out; have := HJ8.out; have := HJ17.out; first | omega | exact Nat.le_refl _⟩, ⟨carH HB.out⟩⟩
          case rest =>
           clear HC23
           try clear c1
           try clear p1
           try clear q1
           try clear hx1
           try clear c2
           try clear p2
           try clear q2
           try clear hx2
           try clear c3
           try clear c4
           try clear c4b0
           try clear c5
           try clear c5b0
           try clear p6
           try clear q6
           try clear hx6
           try clear c7
           try clear c7b0
           try clear c7b1
           try clear p8
           try clear q8
           try clear hx8
           try clear c10
           try clear c11
           try clear c11b0
           try clear c12
           try clear c12b0
           try clear p13
           try clear q13
           try clear hx13
           try clear c15
           try clear c15b0
           try clear c15b1
           try clear c16
           try clear c16b0
           try clear c16b1
           try clear c17
           try clear c17b0
           try clear c17b1
           try clear c19
           try clear c19b0
           try clear c21
           try clear c21b0
           try clear p22
           try clear q22
           try clear hx22
           try clear c24
           try clear c26
           try clear c26b0
           try clear c28
           try clear c28b0
           try clear c28b1
           try clear c29
           try clear c29b0
           try clear c29b1
           try clear c30
           try clear c30b0
           try clear c30b1
           try clear p1
           try clear p13
           try clear p2
           try clear p22
           try clear p6
           try clear p8
           try clear q1
           try clear q13
           try clear q2
           try clear q22
           try clear q6
           try clear q8
           obtain ⟨kq, x4_22, x8_22, rfl, rfl, HA, HJ22, HB⟩ := hcut
           cases kq with
           | zero => exact absurd HA.out (by simp [impl_ReadDec.j3])
           | succ kj22 =>
            have H := HA.out
            clear HA
            simp only [impl_ReadDec.j3] at H
            have HC31 := Aside0.mk H
            clear H
            go_upto_region 15 with (fail)
            go_cut [84] (fun v84 wc => ∃ (kq : Nat) (x84_30 : Bool), v84 = .bool x84_30 ∧ Aside0 (impl_ReadDec.j4 kq x4_22 x5_8 (a0.extract (x4_8 : Int).toNat ((wrap64 (x4_8 + t195)) : Int).toNat) x8_22 x84_30 = some (r1, r2)) ∧ Aside0 (kq ≤ kj22) ∧ Aside0 (Below w.heap.size w wc))
            case first =>
             have H := HC31.out
             clear HC31
             by_cases c32 : (a0.extract (x4_8 : Int).toNat ((wrap64 (x4_8 + t195)) : Int).toNat).toList = ([] : List UInt8)
             ·
              rw [if_pos c32] at H
              have c32b0 : ((a0.extract (x4_8 : Int).toNat ((wrap64 (x4_8 + t195)) : Int).toNat).toList == ([] : List UInt8)) = true := beq_iff_eq.mpr c32
              have c32b1 : ((a0.extract (x4_8 : Int).toNat ((wrap64 (x4_8 + t195)) : Int).toNat).toList != ([] : List UInt8)) = false := bne_eq_false_iff_eq.mpr c32
              clear c32
              (first | rw [c32b0] | (simp only [i64_w, i32_w]; rw [c32b0]) | skip)
              have H' := Aside0.mk H
              clear H
              go_wp2
              go_meet
              case rel => exact ⟨_, ((x8_22.toList == ([] : List UInt8))), argK, H', ⟨by have := HJ2.out; have := HJ8.out; have := HJ17.out; have := HJ22.out; first | omega | exact Nat.le_refl _⟩, ⟨carH HB.out⟩⟩
             ·
              rw [if_neg c32] at H
              have c32b0 : ((a0.extract (x4_8 : Int).toNat ((wrap64 (x4_8 + t195)) : Int).toNat).toList == ([] : List UInt8)) = false := beq_eq_false_iff_ne.mpr c32
              have c32b1 : ((a0.extract (x4_8 : Int).toNat ((wrap64 (x4_8 + t195)) : Int).toNat).toList != ([] : List UInt8)) = true := bne_iff_ne.mpr c32
              (first | rw [c32b0] | (simp only [i64_w, i32_w]; rw [c32b0]) | skip)
              have H' := Aside0.mk H
              clear H
              go_wp2
              go_meet
              case rel => exact ⟨_, (false), argK, H', ⟨by have := HJ2.out; have := HJ8.out; have := HJ17.out; have := HJ22.out; first | omega | exact Nat.le_refl _⟩, ⟨carH HB.out⟩⟩
            case rest =>
             clear HC31
             try clear c1
             try clear p1
             try clear q1
             try clear hx1
             try clear c2
             try clear p2
             try clear q2
             try clear hx2
             try clear c3
             try clear c4
             try clear c4b0
             try clear c5
             try clear c5b0
             try clear p6
             try clear q6
             try clear hx6
             try clear c7
             try clear c7b0
             try clear c7b1
             try clear p8
             try clear q8
             try clear hx8
             try clear c10
             try clear c11
             try clear c11b0
             try clear c12
             try clear c12b0
             try clear p13
             try clear q13
             try clear hx13
             try clear c15
             try clear c15b0
             try clear c15b1
             try clear c16
             try clear c16b0
             try clear c16b1
             try clear c17
             try clear c17b0
             try clear c17b1
             try clear c19
             try clear c19b0
             try clear c21
             try clear c21b0
             try clear p22
             try clear q22
             try clear hx22
             try clear c24
             try clear c26
             try clear c26b0
             try clear c28
             try clear c28b0
             try clear c28b1
             try clear c29
             try clear c29b0
             try clear c29b1
             try clear c30
             try clear c30b0
             try clear c30b1
             try clear c32
             try clear c32b0
             try clear c32b1
             try clear p1
             try clear p13
             try clear p2
             try clear p22
             try clear p6
             try clear p8
             try clear q1
             try clear q13
             try clear q2
             try clear q22
             try clear q6
             try clear q8
             obtain ⟨kq, x84_30, rfl, HA, HJ30, HB⟩ := hcut
             cases kq with
             | zero => exact absurd HA.out (by simp [impl_ReadDec.j4])
             | succ kj30 =>
              have H := HA.out
              clear HA
              simp only [impl_ReadDec.j4] at H
              by_cases c33 : x84_30 = true
              ·
               subst c33
               have H1 : (some (0, 0)) = some (r1, r2) := by rw [if_pos rfl] at H; exact H
               clear H
               have H := H1
               clear H1
               simp only [Option.some.injEq, Prod.mk.injEq] at H
               obtain ⟨rfl, rfl⟩ := H
               go_wp2
               go_ret2
               exact ⟨retK, carH HB.out⟩
              ·
               replace c33 := Bool.eq_false_iff.mpr c33
               subst c33
               have H1 : (if x8_22.size + 6 ≤ 9223372036854775807 then (if 0 ≤ 6 then (if 6 ≤ ((x8_22 ++ (⟨#[48, 48, 48, 48, 48, 48]⟩ : ByteArray)).size : Int) then (if (a0.extract (x4_8 : Int).toNat ((wrap64 (x4_8 + t195)) : Int).toNat).size + ((x8_22 ++ (⟨#[48, 48, 48, 48, 48, 48]⟩ : ByteArray)).extract 0 6).size ≤ 9223372036854775807 then (if ((a0.extract (x4_8 : Int).toNat ((wrap64 (x4_8 + t195)) : Int).toNat) ++ ((x8_22 ++ (⟨#[48, 48, 48, 48, 48, 48]⟩ : ByteArray)).extract 0 6)).size ≤ 9223372036854775807 then ((some (bytesOf ((a0.extract (x4_8 : Int).toNat ((wrap64 (x4_8 + t195)) : Int).toNat) ++ ((x8_22 ++ (⟨#[48, 48, 48, 48, 48, 48]⟩ : ByteArray)).extract 0 6)) : List Int)).bind fun y197 => (impl_ReadDec.l0 kj30 x4_22 x5_8 0 y197 (y197.length : Int) 0)) else (none)) else (none)) else (none)) else (none)) else (none)) = some (r1, r2) := by rw [if_neg (show ¬ (false = true) by decide)] at H; exact H
               clear H
               have H := H1
               clear H1
               by_cases c34 : x8_22.size + 6 ≤ 9223372036854775807
               ·
                rw [if_pos c34] at H
                have c34b0 := eq_true c34
                have c34b1 : decide (x8_22.size + 6 ≤ 9223372036854775807) = true := decide_eq_true c34
                try have c34b2 : (9223372036854775807 < x8_22.size + 6) = False := eq_false (Nat.not_lt.2 c34)
                by_cases c35 : 0 ≤ 6
                ·
                 rw [if_pos c35] at H
                 have c35b0 := eq_true c35
                 have c35b1 : decide (0 ≤ 6) = true := decide_eq_true c35
                 clear c35
                 by_cases c36 : 6 ≤ ((x8_22 ++ (⟨#[48, 48, 48, 48, 48, 48]⟩ : ByteArray)).size : Int)
                 ·
                  rw [if_pos c36] at H
                  have c36b0 := eq_true c36
                  have c36b1 : decide (6 ≤ ((x8_22 ++ (⟨#[48, 48, 48, 48, 48, 48]⟩ : ByteArray)).size : Int)) = true := decide_eq_true c36
                  by_cases c37 : (a0.extract (x4_8 : Int).toNat ((wrap64 (x4_8 + t195)) : Int).toNat).size + ((x8_22 ++ (⟨#[48, 48, 48, 48, 48, 48]⟩ : ByteArray)).extract 0 6).size ≤ 9223372036854775807
                  ·
                   rw [if_pos c37] at H
                   have c37b0 := eq_true c37
                   have c37b1 : decide ((a0.extract (x4_8 : Int).toNat ((wrap64 (x4_8 + t195)) : Int).toNat).size + ((x8_22 ++ (⟨#[48, 48, 48, 48, 48, 48]⟩ : ByteArray)).extract 0 6).size ≤ 9223372036854775807) = true := decide_eq_true c37
                   try have c37b2 : (9223372036854775807 < (a0.extract (x4_8 : Int).toNat ((wrap64 (x4_8 + t195)) : Int).toNat).size + ((x8_22 ++ (⟨#[48, 48, 48, 48, 48, 48]⟩ : ByteArray)).extract 0 6).size) = False := eq_false (Nat.not_lt.2 c37)
                   try have c37b3 : (9223372036854775807 < (a0.extract (x4_8 : Int).toNat ((wrap64 (x4_8 + t195)) : Int).toNat).size + ((x8_22 ++ (⟨#[48, 48, 48, 48, 48, 48]⟩ : ByteArray)).extract 0 6).size) = False := eq_false (Nat.not_lt.2 (by have this_ := c37; simp only [ByteArray.size_append] at this_; exact this_))
                   by_cases c38 : ((a0.extract (x4_8 : Int).toNat ((wrap64 (x4_8 + t195)) : Int).toNat) ++ ((x8_22 ++ (⟨#[48, 48, 48, 48, 48, 48]⟩ : ByteArray)).extract 0 6)).size ≤ 9223372036854775807
                   ·
                    rw [if_pos c38] at H
                    have c38b0 := eq_true c38
                    have c38b1 : decide (((a0.extract (x4_8 : Int).toNat ((wrap64 (x4_8 + t195)) : Int).toNat) ++ ((x8_22 ++ (⟨#[48, 48, 48, 48, 48, 48]⟩ : ByteArray)).extract 0 6)).size ≤ 9223372036854775807) = true := decide_eq_true c38
                    try have c38b2 : (9223372036854775807 < ((a0.extract (x4_8 : Int).toNat ((wrap64 (x4_8 + t195)) : Int).toNat) ++ ((x8_22 ++ (⟨#[48, 48, 48, 48, 48, 48]⟩ : ByteArray)).extract 0 6)).size) = False := eq_false (Nat.not_lt.2 c38)
                    try have c38b3 : (9223372036854775807 < (a0.extract (x4_8 : Int).toNat ((wrap64 (x4_8 + t195)) : Int).toNat).size + ((x8_22 ++ (⟨#[48, 48, 48, 48, 48, 48]⟩ : ByteArray)).extract 0 6).size) = False := eq_false (Nat.not_lt.2 (by have this_ := c38; simp only [ByteArray.size_append] at this_; exact this_))
                    obtain ⟨y197, hy197⟩ : ∃ y_ : List Int, y_ = (bytesOf ((a0.extract (x4_8 : Int).toNat ((wrap64 (x4_8 + t195)) : Int).toNat) ++ ((x8_22 ++ (⟨#[48, 48, 48, 48, 48, 48]⟩ : ByteArray)).extract 0 6))) := ⟨_, rfl⟩
                    replace H : (impl_ReadDec.l0 kj30 x4_22 x5_8 0 y197 (y197.length : Int) 0) = some (r1, r2) := by first | (rw [hy197]; with_reducible exact H) | (have H2_ := (Option.bind_some _ _).symm.trans H; rw [hy197]; with_reducible exact H2_) | (have H2_ := (Option.bind_some _ _).symm.trans H; with_reducible exact H2_) | with_reducible exact H | (rw [hy197]; exact H) | exact H
                    have Ny197 := Aside0.mk hy197
                    clear hy197
                    have H' := Aside0.mk H
                    clear H
                    go_wp2_with (first | ((with_reducible refine gate_dst (N := 90) rfl ?_); refine Kd.V_conv _ 5 rfl (N := 90) rfl 9 41 _ rfl ((a0.extract (x4_8 : Int).toNat ((wrap64 (x4_8 + t195)) : Int).toNat) ++ ((x8_22 ++ (⟨#[48, 48, 48, 48, 48, 48]⟩ : ByteArray)).extract 0 6)) rfl Tryd.underlying9 Tryd.underlying41 Tryd.underlying5 dA (Below.refl _ _) (Nat.le_refl _) ?_; intro v198 w39 ho40 hb hg_ hnew_; clear hg_ hnew_; (first | rw [← Ny197.out] at ho40 | (simp only [Int.reduceToNat] at ho40; rw [← Ny197.out] at ho40)); have n0_ := Aside0.mk (Kd.V_lower (Kd.V_mono (ok' := fun k_ => True) ho40 (fun k_ hk_ => trivial)) (below_size (carH HB.out))); have n1_ := Aside0.mk (below_step (carH HB.out) hb); clear HB; have HO199 := n0_; have HB := n1_; clear n0_ n1_; clear hb ho40; obtain ⟨Ao41, co41, eo41⟩ := Kd.V_slice HO199.out; subst eo41))
                    go_loopg [10, 92] kj30 (fun kq v10 v92 w' => ∃ (x10_6 : Int) (x92_6 : Int), v10 = .int .i64 x10_6 ∧ v92 = .int .i64 x92_6 ∧ Aside0 (impl_ReadDec.l0 kq x4_22 x5_8 x10_6 y197 (y197.length : Int) x92_6 = some (r1, r2)) ∧ Aside0 (kq ≤ kj30) ∧ Aside0 (Kd.V (Kd.int .u8) 5 w' w.heap.size (fun _ => True) (.slice Ao41 y197.length co41) y197) ∧ Aside0 (Below w.heap.size w w'))
                    case atStart => exact ⟨(0), (0), argK, argK, H', ⟨Nat.le_refl _⟩, ⟨by (with_reducible repeat (first | apply Kd.V_alloc | apply Kd.V_drewN | apply Kd.V_drew)); exact HO199.out⟩, ⟨carH HB.out⟩⟩
                    case round =>
                     clear H'
                     try clear c1
                     try clear p1
                     try clear q1
                     try clear hx1
                     try clear c2
                     try clear p2
                     try clear q2
                     try clear hx2
                     try clear c3
                     try clear c4
                     try clear c4b0
                     try clear c5
                     try clear c5b0
                     try clear p6
                     try clear q6
                     try clear hx6
                     try clear c7
                     try clear c7b0
                     try clear c7b1
                     try clear p8
                     try clear q8
                     try clear hx8
                     try clear c10
                     try clear c11
                     try clear c11b0
                     try clear c12
                     try clear c12b0
                     try clear p13
                     try clear q13
                     try clear hx13
                     try clear c15
                     try clear c15b0
                     try clear c15b1
                     try clear c16
                     try clear c16b0
                     try clear c16b1
                     try clear c17
                     try clear c17b0
                     try clear c17b1
                     try clear c19
                     try clear c19b0
                     try clear c21
                     try clear c21b0
                     try clear p22
                     try clear q22
                     try clear hx22
                     try clear c24
                     try clear c26
                     try clear c26b0
                     try clear c28
                     try clear c28b0
                     try clear c28b1
                     try clear c29
                     try clear c29b0
                     try clear c29b1
                     try clear c30
                     try clear c30b0
                     try clear c30b1
                     try clear c32
                     try clear c32b0
                     try clear c32b1
                     try clear c33
                     try clear c34
                     try clear c34b0
                     try clear c34b1
                     try clear c34b2
                     try clear c35
                     try clear c35b0
                     try clear c35b1
                     try clear c36
                     try clear c36b0
                     try clear c36b1
                     try clear c37
                     try clear c37b0
                     try clear c37b1
                     try clear c37b2
                     try clear c38
                     try clear c38b0
                     try clear c38b1
                     try clear c38b2
                     try clear p1
                     try clear p13
                     try clear p2
                     try clear p22
                     try clear p6
                     try clear p8
                     try clear q1
                     try clear q13
                     try clear q2
                     try clear q22
                     try clear q6
                     try clear q8
                     obtain ⟨x10_6, x92_6, rfl, rfl, HA, HK6, HO_90, HB⟩ := hrel
                     cases gk with
                     | zero => exact absurd HA.out (by simp [impl_ReadDec.l0])
                     | succ k6 =>
                      have H := HA.out
                      clear HA
                      simp only [impl_ReadDec.l0] at H
                      by_cases c42 : x92_6 < (y197.length : Int)
                      ·
                       rw [if_pos c42] at H
                       have c42b0 : decide (x92_6 < (y197.length : Int)) = true := decide_eq_true c42
                       clear c42
                       by_cases c43 : 0 ≤ x92_6
                       ·
                        rw [if_pos c43] at H
                        have c43b0 : decide (0 ≤ x92_6) = true := decide_eq_true c43
                        clear c43
                        by_cases c44 : x92_6 < (y197.length : Int)
                        ·
                         rw [if_pos c44] at H
                         have c44b0 : decide (x92_6 < (y197.length : Int)) = true := decide_eq_true c44
                         clear c44
                         obtain ⟨ji45, hji45⟩ : ∃ j_ : Int, (mn (wrap64 ((wrap64 (x10_6 * 10)) + (((rd y197 x92_6) - 48) % 256))) 9000000000001) = j_ := ⟨_, rfl⟩
                         replace H : (impl_ReadDec.l0 k6 x4_22 x5_8 ji45 y197 (y197.length : Int) (wrap64 (x92_6 + 1))) = some (r1, r2) := by first | (rw [hji45] at H; exact H) | (simp only [hji45] at H ⊢; exact H)
                         have hji45_ : (if 9000000000001 < (wrap64 ((wrap64 (x10_6 * 10)) + (((rd y197 x92_6) - 48) % 256))) then 9000000000001 else (wrap64 ((wrap64 (x10_6 * 10)) + (((rd y197 x92_6) - 48) % 256)))) = ji45 := hji45
                         have H' := Aside0.mk H
                         clear H
                         have p200 : 0 ≤ (x92_6 : Int) := dA
                         have q200 : x92_6 < (y197.length : Int) := dA
                         obtain ⟨ad200, e200, hx200_0⟩ := Kd.at_int (Kd.V_reads' HO_90.out).2.2 x92_6 p200 q200
                         cases e200
                         replace p200 := eq_true p200
                         replace q200 := eq_true q200
                         go_wp2
                         go_roundg k6
                         case measure => have := HJ2.out; have := HJ8.out; have := HJ17.out; have := HJ22.out; have := HJ30.out; have := HK6.out; omega
                         case rel => exact ⟨(ji45), (wrap64 (x92_6 + 1)), (by first | rfl | (simp; done) | (simp only [← hji45] <;> (first | rfl | simp)) | (simp [*]; done)), argK, (by first | exact H' | (simp only [hji45]; exact H') | (simp only [hji45] at H' ⊢; exact H')), ⟨by have := HJ2.out; have := HJ8.out; have := HJ17.out; have := HJ22.out; have := HJ30.out; have := HK6.out; omega⟩, ⟨by (with_reducible repeat (first | apply Kd.V_alloc | apply Kd.V_drewN | apply Kd.V_drew)); exact HO_90.out⟩, ⟨carH HB.out⟩⟩
                        ·
                         rw [if_neg c44] at H
                         exact absurd H (by simp)
                       ·
                        rw [if_neg c43] at H
                        exact absurd H (by simp)
                      ·
                       rw [if_neg c42] at H
                       have c42b0 : decide (x92_6 < (y197.length : Int)) = false := decide_eq_false c42
                       clear c42
                       obtain ⟨ji46, hji46⟩ : ∃ j_ : Int, (mn x10_6 9000000000000) = j_ := ⟨_, rfl⟩
                       replace H : (if x5_8 = true then (some (wrap64 (-(ji46)), x4_22)) else (some (ji46, x4_22))) = some (r1, r2) := by first | (rw [hji46] at H; exact H) | (simp only [hji46] at H ⊢; exact H)
                       have hji46_ : (if 9000000000000 < x10_6 then 9000000000000 else x10_6) = ji46 := hji46
                       by_cases c47 : x5_8 = true
                       ·
                        subst c47
                        have H1 : (some (wrap64 (-(ji46)), x4_22)) = some (r1, r2) := by rw [if_pos rfl] at H; exact H
                        clear H
                        have H := H1
                        clear H1
                        simp only [Option.some.injEq, Prod.mk.injEq] at H
                        obtain ⟨rfl, rfl⟩ := H
                        go_wp2
                        go_ret2
                        exact ⟨by first | rfl | (simp [errW_none, errW_some] <;> rfl) | (simp only [← hji46]; first | rfl | (simp [errW_none, errW_some] <;> rfl)) | (simp [*, errW_none, errW_some] <;> rfl) | (simp only [xne_nil, xeq_nil]; first | rfl | (simp [errW_none, errW_some] <;> rfl)), carH HB.out⟩
                       ·
                        replace c47 := Bool.eq_false_iff.mpr c47
                        subst c47
                        have H1 : (some (ji46, x4_22)) = some (r1, r2) := by rw [if_neg (show ¬ (false = true) by decide)] at H; exact H
                        clear H
                        have H := H1
                        clear H1
                        simp only [Option.some.injEq, Prod.mk.injEq] at H
                        obtain ⟨rfl, rfl⟩ := H
                        go_wp2
                        go_ret2
                        exact ⟨by first | rfl | (simp [errW_none, errW_some] <;> rfl) | (simp only [← hji46]; first | rfl | (simp [errW_none, errW_some] <;> rfl)) | (simp [*, errW_none, errW_some] <;> rfl) | (simp only [xne_nil, xeq_nil]; first | rfl | (simp [errW_none, errW_some] <;> rfl)), carH HB.out⟩
                   ·
                    rw [if_neg c38] at H
                    exact absurd H (by simp)
                  ·
                   rw [if_neg c37] at H
                   exact absurd H (by simp)
                 ·
                  rw [if_neg c36] at H
                  exact absurd H (by simp)
                ·
                 rw [if_neg c35] at H
                 exact absurd H (by simp)
               ·
                rw [if_neg c34] at H
                exact absurd H (by simp)
       ·
        rw [if_neg c17] at H
        exact absurd H (by simp)
      ·
       rw [if_neg c16] at H
       exact absurd H (by simp)
     ·
      rw [if_neg c15] at H
      exact absurd H (by simp)

end Go.Proofs.YtmddcohelcciaacDoor.PFnExactLex
