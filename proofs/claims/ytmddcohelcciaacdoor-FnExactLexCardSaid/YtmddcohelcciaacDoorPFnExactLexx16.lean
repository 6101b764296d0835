-- XPRINTED: written by a program of this session (wip/xprint), which turns the kit's print
import Derived.Test.YtmddcohelcciaacDoorPFnExactLexx0
import Derived.Test.YtmddcohelcciaacDoorPFnExactLexx6
import Derived.Test.YtmddcohelcciaacDoorPFnExactLexx13
import Derived.Test.YtmddcohelcciaacDoorPFnExactLexx14
import Derived.Test.YtmddcohelcciaacDoorPFnExactLexx15
namespace Go.Proofs.YtmddcohelcciaacDoor.PFnExactLex
open Go.RowKit Go.Proofs.YtmddcohelcciaacDoorW.PrintWords Go.Proofs.YtmddcohelcciaacDoorW.PrintLast Go.Proofs.YtmddcohelcciaacDoorW.PrintMore
attribute [local go_sem] max2_int min2_int max_two min_two max_three min_three max_four min_four   -- for this text's walks alone
set_option linter.unusedVariables false
set_option linter.unusedSimpArgs false

/-! ### laws_FnExactLex: function 3 -/
mutual
def laws_FnExactLex.j0 : Nat → ByteArray → List (S30) → Int → List (S30) → Bool → Option (Bool)
 | 0, _, _, _, _, _ => none
 | k + 1, x0, x3, x4, x5, x32 => if x32 = true then (some false) else ((laws_markTokS.f k x5 1).bind fun bt292 => ((laws_heldTokS.f k bt292.2 1).bind fun t294 => (if t294 < 0 then (some false) else (if t294 = bt292.1 then ((impl_Lex.f k x0).bind fun bt295 => ((laws_eqTokS.f k bt295.1 x3).bind fun t299 => (if t299 = true then (laws_FnExactLex.j1 k bt292.2 bt292.1 (bt295.2 != x4)) else (laws_FnExactLex.j1 k bt292.2 bt292.1 true)))) else (some false)))))
def laws_FnExactLex.j1 : Nat → List (S30) → Int → Bool → Option (Bool)
 | 0, _, _, _ => none
 | k + 1, x5, x7, x57 => if x57 = true then (some false) else ((laws_heldTokS.f k x5 1).bind fun t300 => (if t300 < 0 then (some false) else (if t300 = x7 then (some true) else (some false))))
end
def laws_FnExactLex.f (k : Nat) (a0 : ByteArray) : Option (Bool) := if (a0.size : Int) > 1048576 then (some true) else ((spec_Lex.f k a0).bind fun bt283 => ((impl_Lex.f k a0).bind fun bt287 => ((laws_eqTokS.f k bt287.1 bt283.1).bind fun t291 => (if t291 = true then (laws_FnExactLex.j0 k a0 bt283.1 bt283.2 bt287.1 (bt287.2 != bt283.2)) else (laws_FnExactLex.j0 k a0 bt283.1 bt283.2 bt287.1 true)))))
theorem laws_FnExactLex.mono_l : ∀ k, (∀ y0 y1 y2 y3 y4, LeO (laws_FnExactLex.j0 k y0 y1 y2 y3 y4) (laws_FnExactLex.j0 (k + 1) y0 y1 y2 y3 y4)) ∧ (∀ y0 y1 y2, LeO (laws_FnExactLex.j1 k y0 y1 y2) (laws_FnExactLex.j1 (k + 1) y0 y1 y2))
 | 0 => ⟨fun _ _ _ _ _ r h => by simp [laws_FnExactLex.j0] at h, fun _ _ _ r h => by simp [laws_FnExactLex.j1] at h⟩
 | k + 1 => by
  obtain ⟨ih0, ih1⟩ := laws_FnExactLex.mono_l k
  refine ⟨?_, ?_⟩
  ·
   intro y0 y1 y2 y3 y4
   unfold laws_FnExactLex.j0
   repeat' first
   | (with_reducible exact ih0 _ _ _ _ _)
   | (with_reducible exact ih1 _ _ _)
   | (with_reducible exact impl_Lex.mono _ _)
   | (with_reducible exact laws_eqTokS.mono _ _ _)
   | (with_reducible exact laws_heldTokS.mono _ _ _)
   | (with_reducible exact laws_markTokS.mono _ _ _)
   | (with_reducible exact spec_Lex.mono _ _)
   | (with_reducible exact LeO.refl _)
   | (with_reducible exact LeO.none _)
   | (with_reducible refine LeO.ite ?_ ?_)
   | (with_reducible refine LeO.bind ?_ (fun _ => ?_))
   | exact ih0 _ _ _ _ _
   | exact ih1 _ _ _
   | exact impl_Lex.mono _ _
   | exact laws_eqTokS.mono _ _ _
   | exact laws_heldTokS.mono _ _ _
   | exact laws_markTokS.mono _ _ _
   | exact spec_Lex.mono _ _
   | exact LeO.none _
   | refine LeO.ite ?_ ?_
   | refine LeO.bind ?_ (fun _ => ?_)
  ·
   intro y0 y1 y2
   unfold laws_FnExactLex.j1
   repeat' first
   | (with_reducible exact ih0 _ _ _ _ _)
   | (with_reducible exact ih1 _ _ _)
   | (with_reducible exact impl_Lex.mono _ _)
   | (with_reducible exact laws_eqTokS.mono _ _ _)
   | (with_reducible exact laws_heldTokS.mono _ _ _)
   | (with_reducible exact laws_markTokS.mono _ _ _)
   | (with_reducible exact spec_Lex.mono _ _)
   | (with_reducible exact LeO.refl _)
   | (with_reducible exact LeO.none _)
   | (with_reducible refine LeO.ite ?_ ?_)
   | (with_reducible refine LeO.bind ?_ (fun _ => ?_))
   | exact ih0 _ _ _ _ _
   | exact ih1 _ _ _
   | exact impl_Lex.mono _ _
   | exact laws_eqTokS.mono _ _ _
   | exact laws_heldTokS.mono _ _ _
   | exact laws_markTokS.mono _ _ _
   | exact spec_Lex.mono _ _
   | exact LeO.none _
   | refine LeO.ite ?_ ?_
   | refine LeO.bind ?_ (fun _ => ?_)
theorem laws_FnExactLex.mono : ∀ a0 k, LeO (laws_FnExactLex.f k a0) (laws_FnExactLex.f (k + 1) a0) := by
 intro a0 k
 obtain ⟨ih0, ih1⟩ := laws_FnExactLex.mono_l k
 unfold laws_FnExactLex.f
 repeat' first
   | (with_reducible exact ih0 _ _ _ _ _)
   | (with_reducible exact ih1 _ _ _)
   | (with_reducible exact impl_Lex.mono _ _)
   | (with_reducible exact laws_eqTokS.mono _ _ _)
   | (with_reducible exact laws_heldTokS.mono _ _ _)
   | (with_reducible exact laws_markTokS.mono _ _ _)
   | (with_reducible exact spec_Lex.mono _ _)
   | (with_reducible exact LeO.refl _)
   | (with_reducible exact LeO.none _)
   | (with_reducible refine LeO.ite ?_ ?_)
   | (with_reducible refine LeO.bind ?_ (fun _ => ?_))
   | exact ih0 _ _ _ _ _
   | exact ih1 _ _ _
   | exact impl_Lex.mono _ _
   | exact laws_eqTokS.mono _ _ _
   | exact laws_heldTokS.mono _ _ _
   | exact laws_markTokS.mono _ _ _
   | exact spec_Lex.mono _ _
   | exact LeO.none _
   | refine LeO.ite ?_ ?_
   | refine LeO.bind ?_ (fun _ => ?_)
set_option maxHeartbeats 8000000 in
set_option maxRecDepth 100000 in
theorem laws_FnExactLex.calls (k : Nat) (a0 : ByteArray) (r : Bool) (w : World) (hL : LaidW w) (h : laws_FnExactLex.f k a0 = some r) (hr1 : r = true) :
  Calls Tryd.prog 3 #[.string a0] w fun e w' => e = .returned (.bool r) ∧ Below w.heap.size w w' := by
 have HB := Aside0.mk (Below.refl w.heap.size w)
 have H : (if (a0.size : Int) > 1048576 then (some true) else ((spec_Lex.f k a0).bind fun bt283 => ((impl_Lex.f k a0).bind fun bt287 => ((laws_eqTokS.f k bt287.1 bt283.1).bind fun t291 => (if t291 = true then (laws_FnExactLex.j0 k a0 bt283.1 bt283.2 bt287.1 (bt287.2 != bt283.2)) else (laws_FnExactLex.j0 k a0 bt283.1 bt283.2 bt287.1 true)))))) = some r := h
 clear h
 by_cases c2 : (a0.size : Int) > 1048576
 ·
  rw [if_pos c2] at H
  have c2b0 : decide (1048576 < (a0.size : Int)) = true := decide_eq_true c2
  have c2b1 : decide (1048576 < a0.size) = true := decide_eq_true (by omega)
  clear c2
  obtain rfl := Option.some.inj H
  go_enter Tryd.func3, Tryd.ntmps3
  go_wp2
  go_ret
  exact ⟨retK, carH HB.out⟩
 ·
  rw [if_neg c2] at H
  have c2b0 : decide (1048576 < (a0.size : Int)) = false := decide_eq_false c2
  have c2b1 : decide (1048576 < a0.size) = false := decide_eq_false (by omega)
  clear c2
  replace H := Option.bind_eq_some_iff.mp H
  obtain ⟨⟨t283, t284⟩, A30, H⟩ := H
  replace H : ((impl_Lex.f k a0).bind fun bt287 => ((laws_eqTokS.f k bt287.1 t283).bind fun t291 => (if t291 = true then (laws_FnExactLex.j0 k a0 t283 t284 bt287.1 (bt287.2 != t284)) else (laws_FnExactLex.j0 k a0 t283 t284 bt287.1 true)))) = some r := H
  have A3 := Aside0.mk A30
  clear A30
  replace H := Option.bind_eq_some_iff.mp H
  obtain ⟨⟨t287, t288⟩, A40, H⟩ := H
  replace H : ((laws_eqTokS.f k t287 t283).bind fun t291 => (if t291 = true then (laws_FnExactLex.j0 k a0 t283 t284 t287 (t288 != t284)) else (laws_FnExactLex.j0 k a0 t283 t284 t287 true))) = some r := H
  have A4 := Aside0.mk A40
  clear A40
  have HC5 := Aside0.mk H
  clear H
  go_enter Tryd.func3, Tryd.ntmps3
  go_upto_region 5 with (first | ((with_reducible refine gate_callee (f := 4) rfl ?_); refine goesL_ (some 16) rfl rfl Tryd.func4 (by kernel_rfl) rfl #[.string a0] rfl mapK ?_; (with_reducible refine (spec_Lex.calls k a0 t283 t284 _ A3.out).mono ?_); rintro e w6 ⟨v285, rfl, ho0, hb⟩; refine ⟨_, rfl, ?_⟩; have n0_ := Aside0.mk (Kd.R_lower ho0 (below_size (carH HB.out))); have n1_ := Aside0.mk (below_step (carH HB.out) hb); clear HB; have HO286 := n0_; have HB := n1_; clear n0_ n1_; (try clear hb); (try clear hb2); (try clear hk); (try clear hi); (try clear ho0)) | ((with_reducible refine gate_callee (f := 5) rfl ?_); refine goesL_ (some 21) rfl rfl Tryd.func5 (by kernel_rfl) rfl #[.string a0] rfl mapK ?_; (with_reducible refine (impl_Lex.calls k a0 t287 t288 _ ?side1 A4.out).mono ?_); (case side1 => first | exact hL | ((repeat (first | exact hL | apply LaidW.drewN | apply LaidW.drew | apply LaidW.alloc)); done) | exact LaidW.below hL (carH HB.out)); rintro e w7 ⟨v289, rfl, ho0, hb⟩; refine ⟨_, rfl, ?_⟩; have n0_ := Aside0.mk (Kd.R_elder' (carR HO286.out) (Kd.R_base ho0) hb); have n1_ := Aside0.mk (Kd.R_lower (Kd.R_new' ho0 (Kd.R_lt (carR HO286.out))) (below_size (carH HB.out))); have n2_ := Aside0.mk (below_step (carH HB.out) hb); clear HO286; clear HB; have HO286 := n0_; have HO290 := n1_; have HB := n2_; clear n0_ n1_ n2_; (try clear hb); (try clear hb2); (try clear hk); (try clear hi); (try clear ho0)))
  (try simp only [Act.put, List.setIfInBounds_toArray, List.set_cons_zero, List.set_cons_succ])
  go_cut [32] (fun v32 wc => ∃ (kq : Nat) (x32_4 : Bool), v32 = .bool x32_4 ∧ Aside0 (laws_FnExactLex.j0 kq a0 t283 t284 t287 x32_4 = some r) ∧ Aside0 (kq ≤ k) ∧ Aside0 (Kd.R k30 30 wc w.heap.size (fun k_ => some k_ ≠ (v289 : Value).ownBlock) v285 t283) ∧ Aside0 (Kd.R k30 30 wc w.heap.size (fun k_ => some k_ ≠ (v285 : Value).ownBlock) v289 t287) ∧ Aside0 (Below w.heap.size w wc))
  case first =>
   have H := HC5.out
   clear HC5
   replace H := Option.bind_eq_some_iff.mp H
   obtain ⟨t291, A80, H⟩ := H
   replace H : (if t291 = true then (laws_FnExactLex.j0 k a0 t283 t284 t287 (t288 != t284)) else (laws_FnExactLex.j0 k a0 t283 t284 t287 true)) = some r := H
   have A8 := Aside0.mk A80
   clear A80
   by_cases c9 : t291 = true
   ·
    subst c9
    have H1 : (laws_FnExactLex.j0 k a0 t283 t284 t287 (t288 != t284)) = some r := by rw [if_pos rfl] at H; exact H
    clear H
    have H := H1
    clear H1
    have H' := Aside0.mk H
    clear H
    obtain ⟨Ao10, co10, eo10⟩ := Kd.R_slice HO290.out
    subst eo10
    obtain ⟨Ao11, co11, eo11⟩ := Kd.R_slice HO286.out
    subst eo11
    go_wp2_with (first | ((with_reducible refine gate_callee (f := 6) rfl ?_); refine goesL_ (some 26) rfl rfl Tryd.func6 (by kernel_rfl) rfl #[.slice Ao10 t287.length co10, .slice Ao11 t283.length co11] rfl mapK ?_; (with_reducible refine (laws_eqTokS.calls k _ _ t287 _ _ t283 true _ ?side1 ?side2 ?side3 ?side4 A8.out).mono ?_); (case side1 => repeat (first | exact (Kd.R_reads' HO290.out).2.2 | (with_reducible refine Kd.C_alloc ?_ _) | (with_reducible refine Kd.C_drewN ?_ _) | (with_reducible refine Kd.C_drew ?_))); (case side2 => exact (Kd.R_reads' HO290.out).2.1); (case side3 => repeat (first | exact (Kd.R_reads' HO286.out).2.2 | (with_reducible refine Kd.C_alloc ?_ _) | (with_reducible refine Kd.C_drewN ?_ _) | (with_reducible refine Kd.C_drew ?_))); (case side4 => exact (Kd.R_reads' HO286.out).2.1); rintro e w12 ⟨rfl, hb⟩; refine ⟨_, rfl, ?_⟩; have n0_ := Aside0.mk (Kd.R_below (carR HO286.out) hb); have n1_ := Aside0.mk (Kd.R_below (carR HO290.out) hb); have n2_ := Aside0.mk (below_step (carH HB.out) hb); clear HO286; clear HO290; clear HB; have HO286 := n0_; have HO290 := n1_; have HB := n2_; clear n0_ n1_ n2_; (try clear hb); (try clear hb2); (try clear hk); (try clear hi)))
    go_meet
    case rel => exact ⟨_, ((t288 != t284)), argK, H', ⟨by first | omega | exact Nat.le_refl _⟩, ⟨by (with_reducible repeat (first | apply Kd.R_alloc | apply Kd.R_drewN | apply Kd.R_drew)); exact Kd.R_mono HO286.out (fun _ hk => hk.2)⟩, ⟨by (with_reducible repeat (first | apply Kd.R_alloc | apply Kd.R_drewN | apply Kd.R_drew)); exact Kd.R_mono HO290.out (fun _ hk => hk.2)⟩, ⟨carH HB.out⟩⟩
   ·
    replace c9 := Bool.eq_false_iff.mpr c9
    subst c9
    have H1 : (laws_FnExactLex.j0 k a0 t283 t284 t287 true) = some r := by rw [if_neg (show ¬ (false = true) by decide)] at H; exact H
    clear H
    have H := H1
    clear H1
    have H' := Aside0.mk H
    clear H
    obtain ⟨Ao13, co13, eo13⟩ := Kd.R_slice HO290.out
    subst eo13
    obtain ⟨Ao14, co14, eo14⟩ := Kd.R_slice HO286.out
    subst eo14
    go_wp2_with (first | ((with_reducible refine gate_callee (f := 6) rfl ?_); refine goesL_ (some 26) rfl rfl Tryd.func6 (by kernel_rfl) rfl #[.slice Ao13 t287.length co13, .slice Ao14 t283.length co14] rfl mapK ?_; (with_reducible refine (laws_eqTokS.calls k _ _ t287 _ _ t283 false _ ?side1 ?side2 ?side3 ?side4 A8.out).mono ?_); (case side1 => repeat (first | exact (Kd.R_reads' HO290.out).2.2 | (with_reducible refine Kd.C_alloc ?_ _) | (with_reducible refine Kd.C_drewN ?_ _) | (with_reducible refine Kd.C_drew ?_))); (case side2 => exact (Kd.R_reads' HO290.out).2.1); (case side3 => repeat (first | exact (Kd.R_reads' HO286.out).2.2 | (with_reducible refine Kd.C_alloc ?_ _) | (with_reducible refine Kd.C_drewN ?_ _) | (with_reducible refine Kd.C_drew ?_))); (case side4 => exact (Kd.R_reads' HO286.out).2.1); rintro e w15 ⟨rfl, hb⟩; refine ⟨_, rfl, ?_⟩; have n0_ := Aside0.mk (Kd.R_below (carR HO286.out) hb); have n1_ := Aside0.mk (Kd.R_below (carR HO290.out) hb); have n2_ := Aside0.mk (below_step (carH HB.out) hb); clear HO286; clear HO290; clear HB; have HO286 := n0_; have HO290 := n1_; have HB := n2_; clear n0_ n1_ n2_; (try clear hb); (try clear hb2); (try clear hk); (try clear hi)))
    go_meet
    case rel => exact ⟨_, (true), argK, H', ⟨by first | omega | exact Nat.le_refl _⟩, ⟨by (with_reducible repeat (first | apply Kd.R_alloc | apply Kd.R_drewN | apply Kd.R_drew)); exact Kd.R_mono HO286.out (fun _ hk => hk.2)⟩, ⟨by (with_reducible repeat (first | apply Kd.R_alloc | apply Kd.R_drewN | apply Kd.R_drew)); exact Kd.R_mono HO290.out (fun _ hk => hk.2)⟩, ⟨carH HB.out⟩⟩
  case rest =>
   clear HC5
   try clear c2
   try clear c2b0
   try clear c2b1
   try clear p2
   try clear c3
   try clear c4
   try clear c5
   try clear c6
   try clear c9
   obtain ⟨kq, x32_4, rfl, HA, HJ4, HO_3, HO_5, HB⟩ := hcut
   cases kq with
   | zero => exact absurd HA.out (by simp [laws_FnExactLex.j0])
   | succ kj4 =>
    have H := HA.out
    clear HA
    simp only [laws_FnExactLex.j0] at H
    by_cases c16 : x32_4 = true
    ·
     subst c16
     have H1 : (some false) = some r := by rw [if_pos rfl] at H; exact H
     clear H
     have H := H1
     clear H1
     exact absurd ((Option.some.inj H).trans hr1) (by simp)
    ·
     replace c16 := Bool.eq_false_iff.mpr c16
     subst c16
     have H1 : ((laws_markTokS.f kj4 t287 1).bind fun bt292 => ((laws_heldTokS.f kj4 bt292.2 1).bind fun t294 => (if t294 < 0 then (some false) else (if t294 = bt292.1 then ((impl_Lex.f kj4 a0).bind fun bt295 => ((laws_eqTokS.f kj4 bt295.1 t283).bind fun t299 => (if t299 = true then (laws_FnExactLex.j1 kj4 bt292.2 bt292.1 (bt295.2 != t284)) else (laws_FnExactLex.j1 kj4 bt292.2 bt292.1 true)))) else (some false))))) = some r := by rw [if_neg (show ¬ (false = true) by decide)] at H; exact H
     clear H
     have H := H1
     clear H1
     replace H := Option.bind_eq_some_iff.mp H
     obtain ⟨⟨t292, t293⟩, A170, H⟩ := H
     replace H : ((laws_heldTokS.f kj4 t293 1).bind fun t294 => (if t294 < 0 then (some false) else (if t294 = t292 then ((impl_Lex.f kj4 a0).bind fun bt295 => ((laws_eqTokS.f kj4 bt295.1 t283).bind fun t299 => (if t299 = true then (laws_FnExactLex.j1 kj4 t293 t292 (bt295.2 != t284)) else (laws_FnExactLex.j1 kj4 t293 t292 true)))) else (some false)))) = some r := H
     have A17 := Aside0.mk A170
     clear A170
     replace H := Option.bind_eq_some_iff.mp H
     obtain ⟨t294, A180, H⟩ := H
     replace H : (if t294 < 0 then (some false) else (if t294 = t292 then ((impl_Lex.f kj4 a0).bind fun bt295 => ((laws_eqTokS.f kj4 bt295.1 t283).bind fun t299 => (if t299 = true then (laws_FnExactLex.j1 kj4 t293 t292 (bt295.2 != t284)) else (laws_FnExactLex.j1 kj4 t293 t292 true)))) else (some false))) = some r := H
     have A18 := Aside0.mk A180
     clear A180
     by_cases c19 : t294 < 0
     ·
      rw [if_pos c19] at H
      have c19b0 : decide (t294 < 0) = true := decide_eq_true c19
      clear c19
      exact absurd ((Option.some.inj H).trans hr1) (by simp)
     ·
      rw [if_neg c19] at H
      have c19b0 : decide (t294 < 0) = false := decide_eq_false c19
      clear c19
      by_cases c20 : t294 = t292
      ·
       rw [if_pos c20] at H
       have c20b0 : (t294 == t292) = true := beq_iff_eq.mpr c20
       have c20b1 : (t294 != t292) = false := bne_eq_false_iff_eq.mpr c20
       clear c20
       replace H := Option.bind_eq_some_iff.mp H
       obtain ⟨⟨t295, t296⟩, A210, H⟩ := H
       replace H : ((laws_eqTokS.f kj4 t295 t283).bind fun t299 => (if t299 = true then (laws_FnExactLex.j1 kj4 t293 t292 (t296 != t284)) else (laws_FnExactLex.j1 kj4 t293 t292 true))) = some r := H
       have A21 := Aside0.mk A210
       clear A210
       have HC22 := Aside0.mk H
       clear H
       obtain ⟨Ao23, co23, eo23⟩ := Kd.R_slice HO_5.out
       subst eo23
       go_upto_region 16 with (first | ((with_reducible refine gate_callee (f := 7) rfl ?_); refine goesL_ (some 35) rfl rfl Tryd.func7 (by kernel_rfl) rfl #[.slice Ao23 t287.length co23, .int .i64 1] rfl mapK ?_; (with_reducible refine (laws_markTokS.calls kj4 (fun k_ => some k_ = (.slice Ao23 t287.length co23 : Value).ownBlock) (.slice Ao23 t287.length co23) t287 1 t292 t293 w _ ?side1 ?side2 A17.out).mono ?_); (case side1 => repeat (first | (with_reducible first | exact HB.out | apply below_alloc | apply pw_below_drewN | apply below_drew1) | exact HB.out)); (case side2 => exact Kd.R_tight rfl HO_5.out); rintro e w24 ⟨rfl, hy0, hb, hkp⟩; refine ⟨_, rfl, ?_⟩; have n0_ := Aside0.mk (Kd.R_mono (ok' := fun k_ => some k_ ≠ (.slice Ao23 t287.length co23 : Value).ownBlock) (Kd.R_keptB (HO_3.out) hkp (fun k_ hk_ hs_ => (hk_) hs_)) (fun k_ hk_ => hk_.1)); have n1_ := Aside0.mk (Kd.R_reok rfl hy0 (fun k_ e_ => HO_5.out.1 k_ e_)); have n2_ := Aside0.mk (hb); clear HO_3; clear HO_5; clear HB; have HO_3 := n0_; have HO_5 := n1_; have HB := n2_; clear n0_ n1_ n2_; (try clear hb); (try clear hkp); (try clear hy0)) | ((with_reducible refine gate_callee (f := 8) rfl ?_); refine goesL_ (some 38) rfl rfl Tryd.func8 (by kernel_rfl) rfl #[.slice Ao23 t293.length co23, .int .i64 1] rfl (by (try simp only [List.map_toArray, List.map_cons, List.map_nil]); first | done | (rw [show t293.length = t287.length from (Kd.R_reads' HO_5.out).1.symm] <;> rfl) | rfl | (simp only [List.length_drop, List.length_take]; rfl)) ?_; (with_reducible refine (laws_heldTokS.calls kj4 _ _ t293 1 t294 _ ?side1 ?side2 A18.out).mono ?_); (case side1 => repeat (first | exact (Kd.R_reads' HO_5.out).2.2 | (with_reducible refine Kd.C_alloc ?_ _) | (with_reducible refine Kd.C_drewN ?_ _) | (with_reducible refine Kd.C_drew ?_))); (case side2 => rw [show t293.length = t287.length from (Kd.R_reads' HO_5.out).1.symm]; exact (Kd.R_reads' HO_5.out).2.1); rintro e w25 ⟨rfl, hb⟩; refine ⟨_, rfl, ?_⟩; have n0_ := Aside0.mk (Kd.R_below (carR HO_3.out) hb); have n1_ := Aside0.mk (Kd.R_below (carR HO_5.out) hb); have n2_ := Aside0.mk (below_step (carH HB.out) hb); clear HO_3; clear HO_5; clear HB; have HO_3 := n0_; have HO_5 := n1_; have HB := n2_; clear n0_ n1_ n2_; (try clear hb); (try clear hb2); (try clear hk); (try clear hi)) | ((with_reducible refine gate_callee (f := 5) rfl ?_); refine goesL_ (some 46) rfl rfl Tryd.func5 (by kernel_rfl) rfl #[.string a0] rfl mapK ?_; (with_reducible refine (impl_Lex.calls kj4 a0 t295 t296 _ ?side1 A21.out).mono ?_); (case side1 => first | exact hL | ((repeat (first | exact hL | apply LaidW.drewN | apply LaidW.drew | apply LaidW.alloc)); done) | exact LaidW.below hL (carH HB.out)); rintro e w26 ⟨v297, rfl, ho0, hb⟩; refine ⟨_, rfl, ?_⟩; have n0_ := Aside0.mk (Kd.R_elder' (carR HO_3.out) (Kd.R_base ho0) hb); have n1_ := Aside0.mk (Kd.R_elder' (carR HO_5.out) (Kd.R_base ho0) hb); have n2_ := Aside0.mk (Kd.R_lower (Kd.R_new' (Kd.R_new' ho0 (Kd.R_lt (carR HO_3.out))) (Kd.R_lt (carR HO_5.out))) (below_size (carH HB.out))); have n3_ := Aside0.mk (below_step (carH HB.out) hb); clear HO_3; clear HO_5; clear HB; have HO_3 := n0_; have HO_5 := n1_; have HO298 := n2_; have HB := n3_; clear n0_ n1_ n2_ n3_; (try clear hb); (try clear hb2); (try clear hk); (try clear hi); (try clear ho0)))
       (try simp only [Act.put, List.setIfInBounds_toArray, List.set_cons_zero, List.set_cons_succ])
       go_cut [57] (fun v57 wc => ∃ (kq : Nat) (x57_21 : Bool), v57 = .bool x57_21 ∧ Aside0 (laws_FnExactLex.j1 kq t293 t292 x57_21 = some r) ∧ Aside0 (kq ≤ kj4) ∧ Aside0 (Kd.R k30 30 wc w.heap.size (fun _ => True) (.slice Ao23 t287.length co23) t293) ∧ Aside0 (Below w.heap.size w wc))
       case first =>
        have H := HC22.out
        clear HC22
        replace H := Option.bind_eq_some_iff.mp H
        obtain ⟨t299, A270, H⟩ := H
        replace H : (if t299 = true then (laws_FnExactLex.j1 kj4 t293 t292 (t296 != t284)) else (laws_FnExactLex.j1 kj4 t293 t292 true)) = some r := H
        have A27 := Aside0.mk A270
        clear A270
        by_cases c28 : t299 = true
        ·
         subst c28
         have H1 : (laws_FnExactLex.j1 kj4 t293 t292 (t296 != t284)) = some r := by rw [if_pos rfl] at H; exact H
         clear H
         have H := H1
         clear H1
         have H' := Aside0.mk H
         clear H
         obtain ⟨Ao29, co29, eo29⟩ := Kd.R_slice HO298.out
         subst eo29
         obtain ⟨Ao30, co30, eo30⟩ := Kd.R_slice HO_3.out
         subst eo30
         go_wp2_with (first | ((with_reducible refine gate_callee (f := 6) rfl ?_); refine goesL_ (some 51) rfl rfl Tryd.func6 (by kernel_rfl) rfl #[.slice Ao29 t295.length co29, .slice Ao30 t283.length co30] rfl mapK ?_; (with_reducible refine (laws_eqTokS.calls kj4 _ _ t295 _ _ t283 true _ ?side1 ?side2 ?side3 ?side4 A27.out).mono ?_); (case side1 => repeat (first | exact (Kd.R_reads' HO298.out).2.2 | (with_reducible refine Kd.C_alloc ?_ _) | (with_reducible refine Kd.C_drewN ?_ _) | (with_reducible refine Kd.C_drew ?_))); (case side2 => exact (Kd.R_reads' HO298.out).2.1); (case side3 => repeat (first | exact (Kd.R_reads' HO_3.out).2.2 | (with_reducible refine Kd.C_alloc ?_ _) | (with_reducible refine Kd.C_drewN ?_ _) | (with_reducible refine Kd.C_drew ?_))); (case side4 => exact (Kd.R_reads' HO_3.out).2.1); rintro e w31 ⟨rfl, hb⟩; refine ⟨_, rfl, ?_⟩; have n0_ := Aside0.mk (Kd.R_below (carR HO_3.out) hb); have n1_ := Aside0.mk (Kd.R_below (carR HO_5.out) hb); have n2_ := Aside0.mk (Kd.R_below (carR HO298.out) hb); have n3_ := Aside0.mk (below_step (carH HB.out) hb); clear HO_3; clear HO_5; clear HO298; clear HB; have HO_3 := n0_; have HO_5 := n1_; have HO298 := n2_; have HB := n3_; clear n0_ n1_ n2_ n3_; (try clear hb); (try clear hb2); (try clear hk); (try clear hi)))
         go_meet
         case rel => exact ⟨_, ((t296 != t284)), argK, H', ⟨by have := HJ4.out; first | omega | exact Nat.le_refl _⟩, ⟨by (with_reducible repeat (first | apply Kd.R_alloc | apply Kd.R_drewN | apply Kd.R_drew)); exact Kd.R_mono HO_5.out (fun _ hk => trivial)⟩, ⟨carH HB.out⟩⟩
        ·
         replace c28 := Bool.eq_false_iff.mpr c28
         subst c28
         have H1 : (laws_FnExactLex.j1 kj4 t293 t292 true) = some r := by rw [if_neg (show ¬ (false = true) by decide)] at H; exact H
         clear H
         have H := H1
         clear H1
         have H' := Aside0.mk H
         clear H
         obtain ⟨Ao32, co32, eo32⟩ := Kd.R_slice HO298.out
         subst eo32
         obtain ⟨Ao33, co33, eo33⟩ := Kd.R_slice HO_3.out
         subst eo33
         go_wp2_with (first | ((with_reducible refine gate_callee (f := 6) rfl ?_); refine goesL_ (some 51) rfl rfl Tryd.func6 (by kernel_rfl) rfl #[.slice Ao32 t295.length co32, .slice Ao33 t283.length co33] rfl mapK ?_; (with_reducible refine (laws_eqTokS.calls kj4 _ _ t295 _ _ t283 false _ ?side1 ?side2 ?side3 ?side4 A27.out).mono ?_); (case side1 => repeat (first | exact (Kd.R_reads' HO298.out).2.2 | (with_reducible refine Kd.C_alloc ?_ _) | (with_reducible refine Kd.C_drewN ?_ _) | (with_reducible refine Kd.C_drew ?_))); (case side2 => exact (Kd.R_reads' HO298.out).2.1); (case side3 => repeat (first | exact (Kd.R_reads' HO_3.out).2.2 | (with_reducible refine Kd.C_alloc ?_ _) | (with_reducible refine Kd.C_drewN ?_ _) | (with_reducible refine Kd.C_drew ?_))); (case side4 => exact (Kd.R_reads' HO_3.out).2.1); rintro e w34 ⟨rfl, hb⟩; refine ⟨_, rfl, ?_⟩; have n0_ := Aside0.mk (Kd.R_below (carR HO_3.out) hb); have n1_ := Aside0.mk (Kd.R_below (carR HO_5.out) hb); have n2_ := Aside0.mk (Kd.R_below (carR HO298.out) hb); have n3_ := Aside0.mk (below_step (carH HB.out) hb); clear HO_3; clear HO_5; clear HO298; clear HB; have HO_3 := n0_; have HO_5 := n1_; have HO298 := n2_; have HB := n3_; clear n0_ n1_ n2_ n3_; (try clear hb); (try clear hb2); (try clear hk); (try clear hi)))
         go_meet
         case rel => exact ⟨_, (true), argK, H', ⟨by have := HJ4.out; first | omega | exact Nat.le_refl _⟩, ⟨by (with_reducible repeat (first | apply Kd.R_alloc | apply Kd.R_drewN | apply Kd.R_drew)); exact Kd.R_mono HO_5.out (fun _ hk => trivial)⟩, ⟨carH HB.out⟩⟩
       case rest =>
        clear HC22
        try clear c1
        try clear c2
        try clear c2b0
        try clear c2b1
        try clear p2
        try clear c3
        try clear c4
        try clear c5
        try clear c6
        try clear c7
        try clear c8
        try clear c9
        try clear c16
        try clear c19
        try clear c19b0
        try clear c20
        try clear c20b0
        try clear c20b1
        try clear c28
        try clear p2
        obtain ⟨kq, x57_21, rfl, HA, HJ21, HO_5, HB⟩ := hcut
        have hl5_21 := (Kd.R_reads' HO_5.out).1
        rw [hl5_21] at HO_5
        (try simp only [hl5_21])
        cases kq with
        | zero => exact absurd HA.out (by simp [laws_FnExactLex.j1])
        | succ kj21 =>
         have H := HA.out
         clear HA
         simp only [laws_FnExactLex.j1] at H
         by_cases c35 : x57_21 = true
         ·
          subst c35
          have H1 : (some false) = some r := by rw [if_pos rfl] at H; exact H
          clear H
          have H := H1
          clear H1
          exact absurd ((Option.some.inj H).trans hr1) (by simp)
         ·
          replace c35 := Bool.eq_false_iff.mpr c35
          subst c35
          have H1 : ((laws_heldTokS.f kj21 t293 1).bind fun t300 => (if t300 < 0 then (some false) else (if t300 = t292 then (some true) else (some false)))) = some r := by rw [if_neg (show ¬ (false = true) by decide)] at H; exact H
          clear H
          have H := H1
          clear H1
          replace H := Option.bind_eq_some_iff.mp H
          obtain ⟨t300, A360, H⟩ := H
          replace H : (if t300 < 0 then (some false) else (if t300 = t292 then (some true) else (some false))) = some r := H
          have A36 := Aside0.mk A360
          clear A360
          by_cases c37 : t300 < 0
          ·
           rw [if_pos c37] at H
           have c37b0 : decide (t300 < 0) = true := decide_eq_true c37
           clear c37
           exact absurd ((Option.some.inj H).trans hr1) (by simp)
          ·
           rw [if_neg c37] at H
           have c37b0 : decide (t300 < 0) = false := decide_eq_false c37
           clear c37
           by_cases c38 : t300 = t292
           ·
            rw [if_pos c38] at H
            have c38b0 : (t300 == t292) = true := beq_iff_eq.mpr c38
            have c38b1 : (t300 != t292) = false := bne_eq_false_iff_eq.mpr c38
            clear c38
            obtain rfl := Option.some.inj H
            go_wp2_with (first | ((with_reducible refine gate_callee (f := 8) rfl ?_); refine goesL_ (some 60) rfl rfl Tryd.func8 (by kernel_rfl) rfl #[.slice Ao23 t293.length co23, .int .i64 1] rfl mapK ?_; (with_reducible refine (laws_heldTokS.calls kj21 _ _ t293 1 t300 _ ?side1 ?side2 A36.out).mono ?_); (case side1 => repeat (first | exact (Kd.R_reads' HO_5.out).2.2 | (with_reducible refine Kd.C_alloc ?_ _) | (with_reducible refine Kd.C_drewN ?_ _) | (with_reducible refine Kd.C_drew ?_))); (case side2 => exact (Kd.R_reads' HO_5.out).2.1); rintro e w39 ⟨rfl, hb⟩; refine ⟨_, rfl, ?_⟩; have n0_ := Aside0.mk (Kd.R_below (carR HO_5.out) hb); have n1_ := Aside0.mk (below_step (carH HB.out) hb); clear HO_5; clear HB; have HO_5 := n0_; have HB := n1_; clear n0_ n1_; (try clear hb); (try clear hb2); (try clear hk); (try clear hi)))
            go_ret
            exact ⟨retK, carH HB.out⟩
           ·
            rw [if_neg c38] at H
            have c38b0 : (t300 == t292) = false := beq_eq_false_iff_ne.mpr c38
            have c38b1 : (t300 != t292) = true := bne_iff_ne.mpr c38
            exact absurd ((Option.some.inj H).trans hr1) (by simp)
      ·
       rw [if_neg c20] at H
       have c20b0 : (t294 == t292) = false := beq_eq_false_iff_ne.mpr c20
       have c20b1 : (t294 != t292) = true := bne_iff_ne.mpr c20
       exact absurd ((Option.some.inj H).trans hr1) (by simp)

/-- THE ONE PURE STATEMENT of laws_FnExactLex: yours. -/
def laws_FnExactLex.Pure : Prop := ∀ (a0 : ByteArray), a0.size ≤ 140737488351232 → ∃ k, laws_FnExactLex.f k a0 = some true
theorem laws_FnExactLex.walk (P : laws_FnExactLex.Pure) (a0 : ByteArray) (w : World) (w0 : a0.size ≤ 140737488351232) (hL : LaidW w) :
  Calls Tryd.prog 3 #[.string a0] w fun e w' => e = .returned (.bool true) ∧ Below w.heap.size w w' := by
 obtain ⟨k, h⟩ := P a0 w0
 refine (laws_FnExactLex.calls k a0 true w hL h rfl).mono ?_
 rintro e w' ⟨rfl, hd⟩
 exact ⟨rfl, hd⟩

end Go.Proofs.YtmddcohelcciaacDoor.PFnExactLex
