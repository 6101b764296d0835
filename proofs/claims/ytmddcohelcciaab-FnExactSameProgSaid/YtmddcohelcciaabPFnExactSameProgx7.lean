-- XPRINTED: written by a program of this session (wip/xprint), which turns the kit's print
import Derived.Test.YtmddcohelcciaabPFnExactSameProgx0
import Derived.Test.YtmddcohelcciaabPFnExactSameProgx1
import Derived.Test.YtmddcohelcciaabPFnExactSameProgx2
import Derived.Test.YtmddcohelcciaabPFnExactSameProgx4
import Derived.Test.YtmddcohelcciaabPFnExactSameProgx5
import Derived.Test.YtmddcohelcciaabPFnExactSameProgx6
namespace Go.Proofs.Ytmddcohelcciaab.PFnExactSameProg
open Go.RowKit Go.Proofs.YtmddcohelcciaabW.PrintWords Go.Proofs.YtmddcohelcciaabW.PrintLast Go.Proofs.YtmddcohelcciaabW.PrintMore
attribute [local go_sem] max2_int min2_int max_two min_two max_three min_three max_four min_four   -- for this text's walks alone
set_option linter.unusedVariables false
set_option linter.unusedSimpArgs false

/-! ### impl_SameProg: function 14 -/
def impl_SameProg.f (k : Nat) (l0_0 : List (S43)) (l0_1 : List (S51)) (l1_0 : List (S43)) (l1_1 : List (S51)) : Option (Bool) := (impl_Node_SameProg_1.f k l0_0 l1_0).bind fun t221 => (if t221 = true then ((impl_Item_SameProg_2.f k l0_1 l1_1).bind fun t222 => (some t222)) else (some false))
theorem impl_SameProg.mono : ∀ a0 a1 a2 a3 k, LeO (impl_SameProg.f k a0 a1 a2 a3) (impl_SameProg.f (k + 1) a0 a1 a2 a3) := by
  intro a0 a1 a2 a3 k
  unfold impl_SameProg.f
  repeat' first
      | (with_reducible exact impl_Item_SameProg_2.mono _ _ _)
      | (with_reducible exact impl_Node_SameProg_1.mono _ _ _)
      | (with_reducible exact LeO.refl _)
      | (with_reducible exact LeO.none _)
      | (with_reducible refine LeO.ite ?_ ?_)
      | (with_reducible refine LeO.bind ?_ (fun _ => ?_))
      | exact impl_Item_SameProg_2.mono _ _ _
      | exact impl_Node_SameProg_1.mono _ _ _
      | exact LeO.none _
      | refine LeO.ite ?_ ?_
      | refine LeO.bind ?_ (fun _ => ?_)
set_option maxHeartbeats 8000000 in
set_option maxRecDepth 100000 in
theorem impl_SameProg.calls (k : Nat) (A0_0 : Option Addr) (c0_0 : Nat) (l0_0 : List (S43)) (A0_1 : Option Addr) (c0_1 : Nat) (l0_1 : List (S51)) (A1_0 : Option Addr) (c1_0 : Nat) (l1_0 : List (S43)) (A1_1 : Option Addr) (c1_1 : Nat) (l1_1 : List (S51)) (r : Bool) (w : World) (hr0_0 : Kd.C k43 w A0_0 l0_0.length l0_0) (hc0_0 : l0_0.length ≤ c0_0) (hr0_1 : Kd.C k51 w A0_1 l0_1.length l0_1) (hc0_1 : l0_1.length ≤ c0_1) (hr1_0 : Kd.C k43 w A1_0 l1_0.length l1_0) (hc1_0 : l1_0.length ≤ c1_0) (hr1_1 : Kd.C k51 w A1_1 l1_1.length l1_1) (hc1_1 : l1_1.length ≤ c1_1) (h : impl_SameProg.f k l0_0 l0_1 l1_0 l1_1 = some r) :
    Calls Try.prog 14 #[.agg #[.slice A0_0 l0_0.length c0_0, .slice A0_1 l0_1.length c0_1], .agg #[.slice A1_0 l1_0.length c1_0, .slice A1_1 l1_1.length c1_1]] w fun e w' => e = .returned (.bool r) ∧ Below w.heap.size w w' := by
  have hu33 := Try.underlying33
  have HR0_0 := Aside0.mk hr0_0
  have HC0_0 := Aside0.mk hc0_0
  clear hr0_0 hc0_0
  have HR0_1 := Aside0.mk hr0_1
  have HC0_1 := Aside0.mk hc0_1
  clear hr0_1 hc0_1
  have HR1_0 := Aside0.mk hr1_0
  have HC1_0 := Aside0.mk hc1_0
  clear hr1_0 hc1_0
  have HR1_1 := Aside0.mk hr1_1
  have HC1_1 := Aside0.mk hc1_1
  clear hr1_1 hc1_1
  have HB := Aside0.mk (Below.refl w.heap.size w)
  have H : ((impl_Node_SameProg_1.f k l0_0 l1_0).bind fun t221 => (if t221 = true then ((impl_Item_SameProg_2.f k l0_1 l1_1).bind fun t222 => (some t222)) else (some false))) = some r := h
  clear h
  replace H := Option.bind_eq_some_iff.mp H
  obtain ⟨t221, A30, H⟩ := H
  replace H : (if t221 = true then ((impl_Item_SameProg_2.f k l0_1 l1_1).bind fun t222 => (some t222)) else (some false)) = some r := H
  have A3 := Aside0.mk A30
  clear A30
  by_cases c4 : t221 = true
  · subst c4
    have H1 : ((impl_Item_SameProg_2.f k l0_1 l1_1).bind fun t222 => (some t222)) = some r := by rw [if_pos rfl] at H; exact H
    clear H
    have H := H1
    clear H1
    replace H := Option.bind_eq_some_iff.mp H
    obtain ⟨t222, A50, H⟩ := H
    replace H : (some t222) = some r := H
    have A5 := Aside0.mk A50
    clear A50
    obtain rfl := Option.some.inj H
    go_enter Try.func14, Try.ntmps14
    go_wp2_with (first | ((with_reducible refine gate_dst (N := 2) rfl ?_); refine box_event ?hg (N := 2) ?hd (cs := #[.slice A0_0 l0_0.length c0_0, .slice A0_1 l0_1.length c0_1]) (t := 33) ?hr ?_; (case hd => rfl); (case hg => rfl); (case hr => first | (go_simp; done) | (go_simp; rfl)); intro gb219 hg w6 hbox hb; have n0_ := Aside0.mk (below_step (carH HB.out) hb); have n1_ := Aside0.mk (hbox); have n2_ := Aside0.mk ((by rw [hg]; exact (below_size (carH HB.out)) : w.heap.size ≤ gb219)); have n3_ := Aside0.mk ((by rw [hg]; exact (below_size (carH HB.out)) : w.heap.size ≤ gb219)); clear HB; have HB := n0_; have BK219 := n1_; have GW219 := n2_; have GE219 := n3_; clear n0_ n1_ n2_ n3_; clear hb hbox hg) | ((with_reducible refine gate_dst (N := 3) rfl ?_); refine box_event ?hg (N := 3) ?hd (cs := #[.slice A1_0 l1_0.length c1_0, .slice A1_1 l1_1.length c1_1]) (t := 33) ?hr ?_; (case hd => rfl); (case hg => rfl); (case hr => first | (go_simp; done) | (go_simp; rfl)); intro gb220 hg w7 hbox hb; have n0_ := Aside0.mk (blk_below (g := gb219) (o := .cells #[.slice A0_0 l0_0.length c0_0, .slice A0_1 l0_1.length c0_1] 33 (0, 0)) (carB BK219.out) hb); have n1_ := Aside0.mk (below_step (carH HB.out) hb); have n2_ := Aside0.mk (hbox); have n3_ := Aside0.mk ((by rw [hg]; exact (below_size (carH HB.out)) : w.heap.size ≤ gb220)); have n4_ := Aside0.mk ((by rw [hg]; exact (below_size (carH HB.out)) : w.heap.size ≤ gb220)); have n5_ := Aside0.mk ((by rw [hg]; exact Nat.ne_of_lt (blk_lt (g := gb219) (o := .cells #[.slice A0_0 l0_0.length c0_0, .slice A0_1 l0_1.length c0_1] 33 (0, 0)) (carB BK219.out)) : gb219 ≠ gb220)); have n6_ := Aside0.mk ((by rw [hg]; exact Nat.ne_of_gt (blk_lt (g := gb219) (o := .cells #[.slice A0_0 l0_0.length c0_0, .slice A0_1 l0_1.length c0_1] 33 (0, 0)) (carB BK219.out)) : gb220 ≠ gb219)); clear BK219; clear HB; have BK219 := n0_; have HB := n1_; have BK220 := n2_; have GW220 := n3_; have GE220 := n4_; have NB219_220 := n5_; have NB220_219 := n6_; clear n0_ n1_ n2_ n3_ n4_ n5_ n6_; clear hb hbox hg; have hnb8 := NB219_220.out; have hnc8 := NB220_219.out; have hcz9_0 : w7.cell? ⟨gb219, 0, none⟩ = some (.slice A0_0 l0_0.length c0_0) := (blk_cell BK219.out 0).trans rfl; have hcz9_1 : w7.cell? ⟨gb219, 1, none⟩ = some (.slice A0_1 l0_1.length c0_1) := (blk_cell BK219.out 1).trans rfl; have hfz9_0 := blk_frozen BK219.out 0; have hfz9_1 := blk_frozen BK219.out 1; have hcz10_0 : w7.cell? ⟨gb220, 0, none⟩ = some (.slice A1_0 l1_0.length c1_0) := (blk_cell BK220.out 0).trans rfl; have hcz10_1 : w7.cell? ⟨gb220, 1, none⟩ = some (.slice A1_1 l1_1.length c1_1) := (blk_cell BK220.out 1).trans rfl; have hfz10_0 := blk_frozen BK220.out 0; have hfz10_1 := blk_frozen BK220.out 1) | ((with_reducible refine gate_callee (f := 23) rfl ?_); refine goesL_ (some 9) rfl rfl Try.func23 (by kernel_rfl) rfl #[.slice A0_0 l0_0.length c0_0, .slice A1_0 l1_0.length c1_0, (.func (.func 24) #[] #[])] rfl (by (try simp only [List.map_toArray, List.map_cons, List.map_nil]); first | done | rfl | (simp only [List.length_drop, List.length_take]; rfl)) ?_; (with_reducible refine (impl_Node_SameProg_1.calls k _ _ l0_0 _ _ l1_0  true _ ?side1 ?side2 ?side3 ?side4 A3.out).mono ?_); (case side1 => repeat (first | exact (Kd.C_below HR0_0.out HB.out) | (with_reducible refine Kd.C_alloc ?_ _) | (with_reducible refine Kd.C_drewN ?_ _) | (with_reducible refine Kd.C_drew ?_))); (case side2 => exact HC0_0.out); (case side3 => repeat (first | exact (Kd.C_below HR1_0.out HB.out) | (with_reducible refine Kd.C_alloc ?_ _) | (with_reducible refine Kd.C_drewN ?_ _) | (with_reducible refine Kd.C_drew ?_))); (case side4 => exact HC1_0.out); rintro e w11 ⟨rfl, hb⟩; refine ⟨_, rfl, ?_⟩; have n0_ := Aside0.mk (blk_below (g := gb219) (o := .cells #[.slice A0_0 l0_0.length c0_0, .slice A0_1 l0_1.length c0_1] 33 (0, 0)) (carB BK219.out) hb); have n1_ := Aside0.mk (blk_below (g := gb220) (o := .cells #[.slice A1_0 l1_0.length c1_0, .slice A1_1 l1_1.length c1_1] 33 (0, 0)) (carB BK220.out) hb); have n2_ := Aside0.mk (below_step (carH HB.out) hb); clear BK219; clear BK220; clear HB; have BK219 := n0_; have BK220 := n1_; have HB := n2_; clear n0_ n1_ n2_; (try clear hb); (try clear hb2); (try clear hk); (try clear hi); have hcz12_0 : w11.cell? ⟨gb219, 0, none⟩ = some (.slice A0_0 l0_0.length c0_0) := (blk_cell BK219.out 0).trans rfl; have hcz12_1 : w11.cell? ⟨gb219, 1, none⟩ = some (.slice A0_1 l0_1.length c0_1) := (blk_cell BK219.out 1).trans rfl; have hfz12_0 := blk_frozen BK219.out 0; have hfz12_1 := blk_frozen BK219.out 1; have hcz13_0 : w11.cell? ⟨gb220, 0, none⟩ = some (.slice A1_0 l1_0.length c1_0) := (blk_cell BK220.out 0).trans rfl; have hcz13_1 : w11.cell? ⟨gb220, 1, none⟩ = some (.slice A1_1 l1_1.length c1_1) := (blk_cell BK220.out 1).trans rfl; have hfz13_0 := blk_frozen BK220.out 0; have hfz13_1 := blk_frozen BK220.out 1) | (go_at_call 26; (with_reducible refine (impl_Item_SameProg_2.calls k _ _ l0_1 _ _ l1_1  t222 _ ?side1 ?side2 ?side3 ?side4 A5.out).mono ?_); (case side1 => repeat (first | exact (Kd.C_below HR0_1.out HB.out) | (with_reducible refine Kd.C_alloc ?_ _) | (with_reducible refine Kd.C_drewN ?_ _) | (with_reducible refine Kd.C_drew ?_))); (case side2 => exact HC0_1.out); (case side3 => repeat (first | exact (Kd.C_below HR1_1.out HB.out) | (with_reducible refine Kd.C_alloc ?_ _) | (with_reducible refine Kd.C_drewN ?_ _) | (with_reducible refine Kd.C_drew ?_))); (case side4 => exact HC1_1.out); rintro e w14 ⟨rfl, hb⟩; have n0_ := Aside0.mk (blk_below (g := gb219) (o := .cells #[.slice A0_0 l0_0.length c0_0, .slice A0_1 l0_1.length c0_1] 33 (0, 0)) (carB BK219.out) hb); have n1_ := Aside0.mk (blk_below (g := gb220) (o := .cells #[.slice A1_0 l1_0.length c1_0, .slice A1_1 l1_1.length c1_1] 33 (0, 0)) (carB BK220.out) hb); have n2_ := Aside0.mk (below_step (carH HB.out) hb); clear BK219; clear BK220; clear HB; have BK219 := n0_; have BK220 := n1_; have HB := n2_; clear n0_ n1_ n2_; (try clear hb); (try clear hb2); (try clear hk); (try clear hi)))
    go_ret
    exact ⟨by first | rfl | (simp [errW_none, errW_some] <;> rfl) | (simp [*, errW_none, errW_some] <;> rfl) | (simp only [xne_nil, xeq_nil]; first | rfl | (simp [errW_none, errW_some] <;> rfl)), by repeat (first | (with_reducible first | exact HB.out | apply below_alloc | apply pw_below_drewN | apply below_drew1 | refine below_set ?_ GE219.out | refine below_set ?_ GE220.out) | exact HB.out)⟩
  · replace c4 := Bool.eq_false_iff.mpr c4
    subst c4
    have H1 : (some false) = some r := by rw [if_neg (show ¬ (false = true) by decide)] at H; exact H
    clear H
    have H := H1
    clear H1
    obtain rfl := Option.some.inj H
    go_enter Try.func14, Try.ntmps14
    go_wp2_with (first | ((with_reducible refine gate_dst (N := 2) rfl ?_); refine box_event ?hg (N := 2) ?hd (cs := #[.slice A0_0 l0_0.length c0_0, .slice A0_1 l0_1.length c0_1]) (t := 33) ?hr ?_; (case hd => rfl); (case hg => rfl); (case hr => first | (go_simp; done) | (go_simp; rfl)); intro gb219 hg w15 hbox hb; have n0_ := Aside0.mk (below_step (carH HB.out) hb); have n1_ := Aside0.mk (hbox); have n2_ := Aside0.mk ((by rw [hg]; exact (below_size (carH HB.out)) : w.heap.size ≤ gb219)); have n3_ := Aside0.mk ((by rw [hg]; exact (below_size (carH HB.out)) : w.heap.size ≤ gb219)); clear HB; have HB := n0_; have BK219 := n1_; have GW219 := n2_; have GE219 := n3_; clear n0_ n1_ n2_ n3_; clear hb hbox hg) | ((with_reducible refine gate_dst (N := 3) rfl ?_); refine box_event ?hg (N := 3) ?hd (cs := #[.slice A1_0 l1_0.length c1_0, .slice A1_1 l1_1.length c1_1]) (t := 33) ?hr ?_; (case hd => rfl); (case hg => rfl); (case hr => first | (go_simp; done) | (go_simp; rfl)); intro gb220 hg w16 hbox hb; have n0_ := Aside0.mk (blk_below (g := gb219) (o := .cells #[.slice A0_0 l0_0.length c0_0, .slice A0_1 l0_1.length c0_1] 33 (0, 0)) (carB BK219.out) hb); have n1_ := Aside0.mk (below_step (carH HB.out) hb); have n2_ := Aside0.mk (hbox); have n3_ := Aside0.mk ((by rw [hg]; exact (below_size (carH HB.out)) : w.heap.size ≤ gb220)); have n4_ := Aside0.mk ((by rw [hg]; exact (below_size (carH HB.out)) : w.heap.size ≤ gb220)); have n5_ := Aside0.mk ((by rw [hg]; exact Nat.ne_of_lt (blk_lt (g := gb219) (o := .cells #[.slice A0_0 l0_0.length c0_0, .slice A0_1 l0_1.length c0_1] 33 (0, 0)) (carB BK219.out)) : gb219 ≠ gb220)); have n6_ := Aside0.mk ((by rw [hg]; exact Nat.ne_of_gt (blk_lt (g := gb219) (o := .cells #[.slice A0_0 l0_0.length c0_0, .slice A0_1 l0_1.length c0_1] 33 (0, 0)) (carB BK219.out)) : gb220 ≠ gb219)); clear BK219; clear HB; have BK219 := n0_; have HB := n1_; have BK220 := n2_; have GW220 := n3_; have GE220 := n4_; have NB219_220 := n5_; have NB220_219 := n6_; clear n0_ n1_ n2_ n3_ n4_ n5_ n6_; clear hb hbox hg; have hnb17 := NB219_220.out; have hnc17 := NB220_219.out; have hcz18_0 : w16.cell? ⟨gb219, 0, none⟩ = some (.slice A0_0 l0_0.length c0_0) := (blk_cell BK219.out 0).trans rfl; have hcz18_1 : w16.cell? ⟨gb219, 1, none⟩ = some (.slice A0_1 l0_1.length c0_1) := (blk_cell BK219.out 1).trans rfl; have hfz18_0 := blk_frozen BK219.out 0; have hfz18_1 := blk_frozen BK219.out 1; have hcz19_0 : w16.cell? ⟨gb220, 0, none⟩ = some (.slice A1_0 l1_0.length c1_0) := (blk_cell BK220.out 0).trans rfl; have hcz19_1 : w16.cell? ⟨gb220, 1, none⟩ = some (.slice A1_1 l1_1.length c1_1) := (blk_cell BK220.out 1).trans rfl; have hfz19_0 := blk_frozen BK220.out 0; have hfz19_1 := blk_frozen BK220.out 1) | ((with_reducible refine gate_callee (f := 23) rfl ?_); refine goesL_ (some 9) rfl rfl Try.func23 (by kernel_rfl) rfl #[.slice A0_0 l0_0.length c0_0, .slice A1_0 l1_0.length c1_0, (.func (.func 24) #[] #[])] rfl (by (try simp only [List.map_toArray, List.map_cons, List.map_nil]); first | done | rfl | (simp only [List.length_drop, List.length_take]; rfl)) ?_; (with_reducible refine (impl_Node_SameProg_1.calls k _ _ l0_0 _ _ l1_0  false _ ?side1 ?side2 ?side3 ?side4 A3.out).mono ?_); (case side1 => repeat (first | exact (Kd.C_below HR0_0.out HB.out) | (with_reducible refine Kd.C_alloc ?_ _) | (with_reducible refine Kd.C_drewN ?_ _) | (with_reducible refine Kd.C_drew ?_))); (case side2 => exact HC0_0.out); (case side3 => repeat (first | exact (Kd.C_below HR1_0.out HB.out) | (with_reducible refine Kd.C_alloc ?_ _) | (with_reducible refine Kd.C_drewN ?_ _) | (with_reducible refine Kd.C_drew ?_))); (case side4 => exact HC1_0.out); rintro e w20 ⟨rfl, hb⟩; refine ⟨_, rfl, ?_⟩; have n0_ := Aside0.mk (blk_below (g := gb219) (o := .cells #[.slice A0_0 l0_0.length c0_0, .slice A0_1 l0_1.length c0_1] 33 (0, 0)) (carB BK219.out) hb); have n1_ := Aside0.mk (blk_below (g := gb220) (o := .cells #[.slice A1_0 l1_0.length c1_0, .slice A1_1 l1_1.length c1_1] 33 (0, 0)) (carB BK220.out) hb); have n2_ := Aside0.mk (below_step (carH HB.out) hb); clear BK219; clear BK220; clear HB; have BK219 := n0_; have BK220 := n1_; have HB := n2_; clear n0_ n1_ n2_; (try clear hb); (try clear hb2); (try clear hk); (try clear hi)))
    go_ret
    exact ⟨by first | rfl | (simp [errW_none, errW_some] <;> rfl) | (simp [*, errW_none, errW_some] <;> rfl) | (simp only [xne_nil, xeq_nil]; first | rfl | (simp [errW_none, errW_some] <;> rfl)), by repeat (first | (with_reducible first | exact HB.out | apply below_alloc | apply pw_below_drewN | apply below_drew1 | refine below_set ?_ GE219.out | refine below_set ?_ GE220.out) | exact HB.out)⟩

/-! ### laws_FnExactSameProg: function 5 -/
def laws_FnExactSameProg.f (k : Nat) (l0_0 : List (S58)) (l0_1 : List (S60)) (l1_0 : List (S58)) (l1_1 : List (S60)) : Option (Bool) := (laws_szProg.f k l0_0 l0_1 1048576).bind fun t225 => (if t225 < 0 then (some true) else ((laws_szProg.f k l1_0 l1_1 t225).bind fun t226 => (if t226 < 0 then (some true) else ((laws_toProg.f k l0_0 l0_1).bind fun bt227 => ((laws_toProg.f k l1_0 l1_1).bind fun bt233 => ((spec_SameProg.f k bt227.1 bt227.2 bt233.1 bt233.2).bind fun t239 => ((laws_toProg.f k l0_0 l0_1).bind fun bt240 => ((laws_toProg.f k l1_0 l1_1).bind fun bt247 => ((impl_SameProg.f k bt240.1 bt240.2 bt247.1 bt247.2).bind fun t254 => (if (t254 != t239) = true then (some false) else ((laws_toProg.f k l0_0 l0_1).bind fun bt255 => ((laws_eqProg.f k bt240.1 bt240.2 bt255.1 bt255.2).bind fun t261 => (if t261 = true then ((laws_toProg.f k l1_0 l1_1).bind fun bt262 => ((laws_eqProg.f k bt247.1 bt247.2 bt262.1 bt262.2).bind fun t268 => (if t268 = true then (some true) else (some false)))) else (some false))))))))))))))
theorem laws_FnExactSameProg.mono : ∀ a0 a1 a2 a3 k, LeO (laws_FnExactSameProg.f k a0 a1 a2 a3) (laws_FnExactSameProg.f (k + 1) a0 a1 a2 a3) := by
  intro a0 a1 a2 a3 k
  unfold laws_FnExactSameProg.f
  repeat' first
      | (with_reducible exact impl_SameProg.mono _ _ _ _ _)
      | (with_reducible exact laws_eqProg.mono _ _ _ _ _)
      | (with_reducible exact laws_szProg.mono _ _ _ _)
      | (with_reducible exact laws_toProg.mono _ _ _)
      | (with_reducible exact spec_SameProg.mono _ _ _ _ _)
      | (with_reducible exact LeO.refl _)
      | (with_reducible exact LeO.none _)
      | (with_reducible refine LeO.ite ?_ ?_)
      | (with_reducible refine LeO.bind ?_ (fun _ => ?_))
      | exact impl_SameProg.mono _ _ _ _ _
      | exact laws_eqProg.mono _ _ _ _ _
      | exact laws_szProg.mono _ _ _ _
      | exact laws_toProg.mono _ _ _
      | exact spec_SameProg.mono _ _ _ _ _
      | exact LeO.none _
      | refine LeO.ite ?_ ?_
      | refine LeO.bind ?_ (fun _ => ?_)
set_option maxHeartbeats 8000000 in
set_option maxRecDepth 100000 in
theorem laws_FnExactSameProg.calls (k : Nat) (A0_0 : Option Addr) (c0_0 : Nat) (l0_0 : List (S58)) (A0_1 : Option Addr) (c0_1 : Nat) (l0_1 : List (S60)) (A1_0 : Option Addr) (c1_0 : Nat) (l1_0 : List (S58)) (A1_1 : Option Addr) (c1_1 : Nat) (l1_1 : List (S60)) (r : Bool) (w : World) (hr0_0 : Kd.C k58 w A0_0 l0_0.length l0_0) (hc0_0 : l0_0.length ≤ c0_0) (hr0_1 : Kd.C k60 w A0_1 l0_1.length l0_1) (hc0_1 : l0_1.length ≤ c0_1) (hr1_0 : Kd.C k58 w A1_0 l1_0.length l1_0) (hc1_0 : l1_0.length ≤ c1_0) (hr1_1 : Kd.C k60 w A1_1 l1_1.length l1_1) (hc1_1 : l1_1.length ≤ c1_1) (h : laws_FnExactSameProg.f k l0_0 l0_1 l1_0 l1_1 = some r) (hr1 : r = true) :
    Calls Try.prog 5 #[.agg #[.slice A0_0 l0_0.length c0_0, .slice A0_1 l0_1.length c0_1], .agg #[.slice A1_0 l1_0.length c1_0, .slice A1_1 l1_1.length c1_1]] w fun e w' => e = .returned (.bool r) ∧ Below w.heap.size w w' := by
  have hu27 := Try.underlying27
  have hu33 := Try.underlying33
  have HR0_0 := Aside0.mk hr0_0
  have HC0_0 := Aside0.mk hc0_0
  clear hr0_0 hc0_0
  have HR0_1 := Aside0.mk hr0_1
  have HC0_1 := Aside0.mk hc0_1
  clear hr0_1 hc0_1
  have HR1_0 := Aside0.mk hr1_0
  have HC1_0 := Aside0.mk hc1_0
  clear hr1_0 hc1_0
  have HR1_1 := Aside0.mk hr1_1
  have HC1_1 := Aside0.mk hc1_1
  clear hr1_1 hc1_1
  have HB := Aside0.mk (Below.refl w.heap.size w)
  have H : ((laws_szProg.f k l0_0 l0_1 1048576).bind fun t225 => (if t225 < 0 then (some true) else ((laws_szProg.f k l1_0 l1_1 t225).bind fun t226 => (if t226 < 0 then (some true) else ((laws_toProg.f k l0_0 l0_1).bind fun bt227 => ((laws_toProg.f k l1_0 l1_1).bind fun bt233 => ((spec_SameProg.f k bt227.1 bt227.2 bt233.1 bt233.2).bind fun t239 => ((laws_toProg.f k l0_0 l0_1).bind fun bt240 => ((laws_toProg.f k l1_0 l1_1).bind fun bt247 => ((impl_SameProg.f k bt240.1 bt240.2 bt247.1 bt247.2).bind fun t254 => (if (t254 != t239) = true then (some false) else ((laws_toProg.f k l0_0 l0_1).bind fun bt255 => ((laws_eqProg.f k bt240.1 bt240.2 bt255.1 bt255.2).bind fun t261 => (if t261 = true then ((laws_toProg.f k l1_0 l1_1).bind fun bt262 => ((laws_eqProg.f k bt247.1 bt247.2 bt262.1 bt262.2).bind fun t268 => (if t268 = true then (some true) else (some false)))) else (some false))))))))))))))) = some r := h
  clear h
  replace H := Option.bind_eq_some_iff.mp H
  obtain ⟨t225, A30, H⟩ := H
  replace H : (if t225 < 0 then (some true) else ((laws_szProg.f k l1_0 l1_1 t225).bind fun t226 => (if t226 < 0 then (some true) else ((laws_toProg.f k l0_0 l0_1).bind fun bt227 => ((laws_toProg.f k l1_0 l1_1).bind fun bt233 => ((spec_SameProg.f k bt227.1 bt227.2 bt233.1 bt233.2).bind fun t239 => ((laws_toProg.f k l0_0 l0_1).bind fun bt240 => ((laws_toProg.f k l1_0 l1_1).bind fun bt247 => ((impl_SameProg.f k bt240.1 bt240.2 bt247.1 bt247.2).bind fun t254 => (if (t254 != t239) = true then (some false) else ((laws_toProg.f k l0_0 l0_1).bind fun bt255 => ((laws_eqProg.f k bt240.1 bt240.2 bt255.1 bt255.2).bind fun t261 => (if t261 = true then ((laws_toProg.f k l1_0 l1_1).bind fun bt262 => ((laws_eqProg.f k bt247.1 bt247.2 bt262.1 bt262.2).bind fun t268 => (if t268 = true then (some true) else (some false)))) else (some false)))))))))))))) = some r := H
  have A3 := Aside0.mk A30
  clear A30
  by_cases c4 : t225 < 0
  · rw [if_pos c4] at H
    have c4b0 : decide (t225 < 0) = true := decide_eq_true c4
    clear c4
    obtain rfl := Option.some.inj H
    go_enter Try.func5, Try.ntmps5
    go_wp2_with (first | ((with_reducible refine gate_dst (N := 2) rfl ?_); refine box_event ?hg (N := 2) ?hd (cs := #[.slice A0_0 l0_0.length c0_0, .slice A0_1 l0_1.length c0_1]) (t := 27) ?hr ?_; (case hd => rfl); (case hg => rfl); (case hr => first | (go_simp; done) | (go_simp; rfl)); intro gb223 hg w5 hbox hb; have n0_ := Aside0.mk (below_step (carH HB.out) hb); have n1_ := Aside0.mk (hbox); have n2_ := Aside0.mk ((by rw [hg]; exact (below_size (carH HB.out)) : w.heap.size ≤ gb223)); have n3_ := Aside0.mk ((by rw [hg]; exact (below_size (carH HB.out)) : w.heap.size ≤ gb223)); clear HB; have HB := n0_; have BK223 := n1_; have GW223 := n2_; have GE223 := n3_; clear n0_ n1_ n2_ n3_; clear hb hbox hg) | ((with_reducible refine gate_dst (N := 3) rfl ?_); refine box_event ?hg (N := 3) ?hd (cs := #[.slice A1_0 l1_0.length c1_0, .slice A1_1 l1_1.length c1_1]) (t := 27) ?hr ?_; (case hd => rfl); (case hg => rfl); (case hr => first | (go_simp; done) | (go_simp; rfl)); intro gb224 hg w6 hbox hb; have n0_ := Aside0.mk (blk_below (g := gb223) (o := .cells #[.slice A0_0 l0_0.length c0_0, .slice A0_1 l0_1.length c0_1] 27 (0, 0)) (carB BK223.out) hb); have n1_ := Aside0.mk (below_step (carH HB.out) hb); have n2_ := Aside0.mk (hbox); have n3_ := Aside0.mk ((by rw [hg]; exact (below_size (carH HB.out)) : w.heap.size ≤ gb224)); have n4_ := Aside0.mk ((by rw [hg]; exact (below_size (carH HB.out)) : w.heap.size ≤ gb224)); have n5_ := Aside0.mk ((by rw [hg]; exact Nat.ne_of_lt (blk_lt (g := gb223) (o := .cells #[.slice A0_0 l0_0.length c0_0, .slice A0_1 l0_1.length c0_1] 27 (0, 0)) (carB BK223.out)) : gb223 ≠ gb224)); have n6_ := Aside0.mk ((by rw [hg]; exact Nat.ne_of_gt (blk_lt (g := gb223) (o := .cells #[.slice A0_0 l0_0.length c0_0, .slice A0_1 l0_1.length c0_1] 27 (0, 0)) (carB BK223.out)) : gb224 ≠ gb223)); clear BK223; clear HB; have BK223 := n0_; have HB := n1_; have BK224 := n2_; have GW224 := n3_; have GE224 := n4_; have NB223_224 := n5_; have NB224_223 := n6_; clear n0_ n1_ n2_ n3_ n4_ n5_ n6_; clear hb hbox hg; have hnb7 := NB223_224.out; have hnc7 := NB224_223.out; have hcz8_0 : w6.cell? ⟨gb223, 0, none⟩ = some (.slice A0_0 l0_0.length c0_0) := (blk_cell BK223.out 0).trans rfl; have hcz8_1 : w6.cell? ⟨gb223, 1, none⟩ = some (.slice A0_1 l0_1.length c0_1) := (blk_cell BK223.out 1).trans rfl; have hfz8_0 := blk_frozen BK223.out 0; have hfz8_1 := blk_frozen BK223.out 1) | ((with_reducible refine gate_callee (f := 8) rfl ?_); refine goesL_ (some 12) rfl rfl Try.func8 (by kernel_rfl) rfl #[.agg #[.slice A0_0 l0_0.length c0_0, .slice A0_1 l0_1.length c0_1], .int .i64 1048576] rfl (by (try simp only [List.map_toArray, List.map_cons, List.map_nil]); first | done | rfl | (simp only [List.length_drop, List.length_take]; rfl)) ?_; (with_reducible refine (laws_szProg.calls k _ _ l0_0 _ _ l0_1 1048576 t225 _ ?side1 ?side2 ?side3 ?side4 A3.out).mono ?_); (case side1 => repeat (first | exact (Kd.C_below HR0_0.out HB.out) | (with_reducible refine Kd.C_alloc ?_ _) | (with_reducible refine Kd.C_drewN ?_ _) | (with_reducible refine Kd.C_drew ?_))); (case side2 => exact HC0_0.out); (case side3 => repeat (first | exact (Kd.C_below HR0_1.out HB.out) | (with_reducible refine Kd.C_alloc ?_ _) | (with_reducible refine Kd.C_drewN ?_ _) | (with_reducible refine Kd.C_drew ?_))); (case side4 => exact HC0_1.out); rintro e w9 ⟨rfl, hb⟩; refine ⟨_, rfl, ?_⟩; have n0_ := Aside0.mk (blk_below (g := gb223) (o := .cells #[.slice A0_0 l0_0.length c0_0, .slice A0_1 l0_1.length c0_1] 27 (0, 0)) (carB BK223.out) hb); have n1_ := Aside0.mk (blk_below (g := gb224) (o := .cells #[.slice A1_0 l1_0.length c1_0, .slice A1_1 l1_1.length c1_1] 27 (0, 0)) (carB BK224.out) hb); have n2_ := Aside0.mk (below_step (carH HB.out) hb); clear BK223; clear BK224; clear HB; have BK223 := n0_; have BK224 := n1_; have HB := n2_; clear n0_ n1_ n2_; (try clear hb); (try clear hb2); (try clear hk); (try clear hi)))
    go_ret
    exact ⟨by first | rfl | (simp [errW_none, errW_some] <;> rfl) | (simp [*, errW_none, errW_some] <;> rfl) | (simp only [xne_nil, xeq_nil]; first | rfl | (simp [errW_none, errW_some] <;> rfl)), by repeat (first | (with_reducible first | exact HB.out | apply below_alloc | apply pw_below_drewN | apply below_drew1 | refine below_set ?_ GE223.out | refine below_set ?_ GE224.out) | exact HB.out)⟩
  · rw [if_neg c4] at H
    have c4b0 : decide (t225 < 0) = false := decide_eq_false c4
    clear c4
    replace H := Option.bind_eq_some_iff.mp H
    obtain ⟨t226, A100, H⟩ := H
    replace H : (if t226 < 0 then (some true) else ((laws_toProg.f k l0_0 l0_1).bind fun bt227 => ((laws_toProg.f k l1_0 l1_1).bind fun bt233 => ((spec_SameProg.f k bt227.1 bt227.2 bt233.1 bt233.2).bind fun t239 => ((laws_toProg.f k l0_0 l0_1).bind fun bt240 => ((laws_toProg.f k l1_0 l1_1).bind fun bt247 => ((impl_SameProg.f k bt240.1 bt240.2 bt247.1 bt247.2).bind fun t254 => (if (t254 != t239) = true then (some false) else ((laws_toProg.f k l0_0 l0_1).bind fun bt255 => ((laws_eqProg.f k bt240.1 bt240.2 bt255.1 bt255.2).bind fun t261 => (if t261 = true then ((laws_toProg.f k l1_0 l1_1).bind fun bt262 => ((laws_eqProg.f k bt247.1 bt247.2 bt262.1 bt262.2).bind fun t268 => (if t268 = true then (some true) else (some false)))) else (some false)))))))))))) = some r := H
    have A10 := Aside0.mk A100
    clear A100
    by_cases c11 : t226 < 0
    · rw [if_pos c11] at H
      have c11b0 : decide (t226 < 0) = true := decide_eq_true c11
      clear c11
      obtain rfl := Option.some.inj H
      go_enter Try.func5, Try.ntmps5
      go_wp2_with (first | ((with_reducible refine gate_dst (N := 2) rfl ?_); refine box_event ?hg (N := 2) ?hd (cs := #[.slice A0_0 l0_0.length c0_0, .slice A0_1 l0_1.length c0_1]) (t := 27) ?hr ?_; (case hd => rfl); (case hg => rfl); (case hr => first | (go_simp; done) | (go_simp; rfl)); intro gb223 hg w12 hbox hb; have n0_ := Aside0.mk (below_step (carH HB.out) hb); have n1_ := Aside0.mk (hbox); have n2_ := Aside0.mk ((by rw [hg]; exact (below_size (carH HB.out)) : w.heap.size ≤ gb223)); have n3_ := Aside0.mk ((by rw [hg]; exact (below_size (carH HB.out)) : w.heap.size ≤ gb223)); clear HB; have HB := n0_; have BK223 := n1_; have GW223 := n2_; have GE223 := n3_; clear n0_ n1_ n2_ n3_; clear hb hbox hg) | ((with_reducible refine gate_dst (N := 3) rfl ?_); refine box_event ?hg (N := 3) ?hd (cs := #[.slice A1_0 l1_0.length c1_0, .slice A1_1 l1_1.length c1_1]) (t := 27) ?hr ?_; (case hd => rfl); (case hg => rfl); (case hr => first | (go_simp; done) | (go_simp; rfl)); intro gb224 hg w13 hbox hb; have n0_ := Aside0.mk (blk_below (g := gb223) (o := .cells #[.slice A0_0 l0_0.length c0_0, .slice A0_1 l0_1.length c0_1] 27 (0, 0)) (carB BK223.out) hb); have n1_ := Aside0.mk (below_step (carH HB.out) hb); have n2_ := Aside0.mk (hbox); have n3_ := Aside0.mk ((by rw [hg]; exact (below_size (carH HB.out)) : w.heap.size ≤ gb224)); have n4_ := Aside0.mk ((by rw [hg]; exact (below_size (carH HB.out)) : w.heap.size ≤ gb224)); have n5_ := Aside0.mk ((by rw [hg]; exact Nat.ne_of_lt (blk_lt (g := gb223) (o := .cells #[.slice A0_0 l0_0.length c0_0, .slice A0_1 l0_1.length c0_1] 27 (0, 0)) (carB BK223.out)) : gb223 ≠ gb224)); have n6_ := Aside0.mk ((by rw [hg]; exact Nat.ne_of_gt (blk_lt (g := gb223) (o := .cells #[.slice A0_0 l0_0.length c0_0, .slice A0_1 l0_1.length c0_1] 27 (0, 0)) (carB BK223.out)) : gb224 ≠ gb223)); clear BK223; clear HB; have BK223 := n0_; have HB := n1_; have BK224 := n2_; have GW224 := n3_; have GE224 := n4_; have NB223_224 := n5_; have NB224_223 := n6_; clear n0_ n1_ n2_ n3_ n4_ n5_ n6_; clear hb hbox hg; have hnb14 := NB223_224.out; have hnc14 := NB224_223.out; have hcz15_0 : w13.cell? ⟨gb223, 0, none⟩ = some (.slice A0_0 l0_0.length c0_0) := (blk_cell BK223.out 0).trans rfl; have hcz15_1 : w13.cell? ⟨gb223, 1, none⟩ = some (.slice A0_1 l0_1.length c0_1) := (blk_cell BK223.out 1).trans rfl; have hfz15_0 := blk_frozen BK223.out 0; have hfz15_1 := blk_frozen BK223.out 1) | ((with_reducible refine gate_callee (f := 8) rfl ?_); refine goesL_ (some 12) rfl rfl Try.func8 (by kernel_rfl) rfl #[.agg #[.slice A0_0 l0_0.length c0_0, .slice A0_1 l0_1.length c0_1], .int .i64 1048576] rfl (by (try simp only [List.map_toArray, List.map_cons, List.map_nil]); first | done | rfl | (simp only [List.length_drop, List.length_take]; rfl)) ?_; (with_reducible refine (laws_szProg.calls k _ _ l0_0 _ _ l0_1 1048576 t225 _ ?side1 ?side2 ?side3 ?side4 A3.out).mono ?_); (case side1 => repeat (first | exact (Kd.C_below HR0_0.out HB.out) | (with_reducible refine Kd.C_alloc ?_ _) | (with_reducible refine Kd.C_drewN ?_ _) | (with_reducible refine Kd.C_drew ?_))); (case side2 => exact HC0_0.out); (case side3 => repeat (first | exact (Kd.C_below HR0_1.out HB.out) | (with_reducible refine Kd.C_alloc ?_ _) | (with_reducible refine Kd.C_drewN ?_ _) | (with_reducible refine Kd.C_drew ?_))); (case side4 => exact HC0_1.out); rintro e w16 ⟨rfl, hb⟩; refine ⟨_, rfl, ?_⟩; have n0_ := Aside0.mk (blk_below (g := gb223) (o := .cells #[.slice A0_0 l0_0.length c0_0, .slice A0_1 l0_1.length c0_1] 27 (0, 0)) (carB BK223.out) hb); have n1_ := Aside0.mk (blk_below (g := gb224) (o := .cells #[.slice A1_0 l1_0.length c1_0, .slice A1_1 l1_1.length c1_1] 27 (0, 0)) (carB BK224.out) hb); have n2_ := Aside0.mk (below_step (carH HB.out) hb); clear BK223; clear BK224; clear HB; have BK223 := n0_; have BK224 := n1_; have HB := n2_; clear n0_ n1_ n2_; (try clear hb); (try clear hb2); (try clear hk); (try clear hi); have hcz17_0 : w16.cell? ⟨gb224, 0, none⟩ = some (.slice A1_0 l1_0.length c1_0) := (blk_cell BK224.out 0).trans rfl; have hcz17_1 : w16.cell? ⟨gb224, 1, none⟩ = some (.slice A1_1 l1_1.length c1_1) := (blk_cell BK224.out 1).trans rfl; have hfz17_0 := blk_frozen BK224.out 0; have hfz17_1 := blk_frozen BK224.out 1) | ((with_reducible refine gate_callee (f := 8) rfl ?_); refine goesL_ (some 17) rfl rfl Try.func8 (by kernel_rfl) rfl #[.agg #[.slice A1_0 l1_0.length c1_0, .slice A1_1 l1_1.length c1_1], .int .i64 t225] rfl (by (try simp only [List.map_toArray, List.map_cons, List.map_nil]); first | done | rfl | (simp only [List.length_drop, List.length_take]; rfl)) ?_; (with_reducible refine (laws_szProg.calls k _ _ l1_0 _ _ l1_1 t225 t226 _ ?side1 ?side2 ?side3 ?side4 A10.out).mono ?_); (case side1 => repeat (first | exact (Kd.C_below HR1_0.out HB.out) | (with_reducible refine Kd.C_alloc ?_ _) | (with_reducible refine Kd.C_drewN ?_ _) | (with_reducible refine Kd.C_drew ?_))); (case side2 => exact HC1_0.out); (case side3 => repeat (first | exact (Kd.C_below HR1_1.out HB.out) | (with_reducible refine Kd.C_alloc ?_ _) | (with_reducible refine Kd.C_drewN ?_ _) | (with_reducible refine Kd.C_drew ?_))); (case side4 => exact HC1_1.out); rintro e w18 ⟨rfl, hb⟩; refine ⟨_, rfl, ?_⟩; have n0_ := Aside0.mk (blk_below (g := gb223) (o := .cells #[.slice A0_0 l0_0.length c0_0, .slice A0_1 l0_1.length c0_1] 27 (0, 0)) (carB BK223.out) hb); have n1_ := Aside0.mk (blk_below (g := gb224) (o := .cells #[.slice A1_0 l1_0.length c1_0, .slice A1_1 l1_1.length c1_1] 27 (0, 0)) (carB BK224.out) hb); have n2_ := Aside0.mk (below_step (carH HB.out) hb); clear BK223; clear BK224; clear HB; have BK223 := n0_; have BK224 := n1_; have HB := n2_; clear n0_ n1_ n2_; (try clear hb); (try clear hb2); (try clear hk); (try clear hi)))
      go_ret
      exact ⟨by first | rfl | (simp [errW_none, errW_some] <;> rfl) | (simp [*, errW_none, errW_some] <;> rfl) | (simp only [xne_nil, xeq_nil]; first | rfl | (simp [errW_none, errW_some] <;> rfl)), by repeat (first | (with_reducible first | exact HB.out | apply below_alloc | apply pw_below_drewN | apply below_drew1 | refine below_set ?_ GE223.out | refine below_set ?_ GE224.out) | exact HB.out)⟩
    · rw [if_neg c11] at H
      have c11b0 : decide (t226 < 0) = false := decide_eq_false c11
      clear c11
      replace H := Option.bind_eq_some_iff.mp H
      obtain ⟨⟨t227, t230⟩, A190, H⟩ := H
      replace H : ((laws_toProg.f k l1_0 l1_1).bind fun bt233 => ((spec_SameProg.f k t227 t230 bt233.1 bt233.2).bind fun t239 => ((laws_toProg.f k l0_0 l0_1).bind fun bt240 => ((laws_toProg.f k l1_0 l1_1).bind fun bt247 => ((impl_SameProg.f k bt240.1 bt240.2 bt247.1 bt247.2).bind fun t254 => (if (t254 != t239) = true then (some false) else ((laws_toProg.f k l0_0 l0_1).bind fun bt255 => ((laws_eqProg.f k bt240.1 bt240.2 bt255.1 bt255.2).bind fun t261 => (if t261 = true then ((laws_toProg.f k l1_0 l1_1).bind fun bt262 => ((laws_eqProg.f k bt247.1 bt247.2 bt262.1 bt262.2).bind fun t268 => (if t268 = true then (some true) else (some false)))) else (some false)))))))))) = some r := H
      have A19 := Aside0.mk A190
      clear A190
      replace H := Option.bind_eq_some_iff.mp H
      obtain ⟨⟨t233, t236⟩, A200, H⟩ := H
      replace H : ((spec_SameProg.f k t227 t230 t233 t236).bind fun t239 => ((laws_toProg.f k l0_0 l0_1).bind fun bt240 => ((laws_toProg.f k l1_0 l1_1).bind fun bt247 => ((impl_SameProg.f k bt240.1 bt240.2 bt247.1 bt247.2).bind fun t254 => (if (t254 != t239) = true then (some false) else ((laws_toProg.f k l0_0 l0_1).bind fun bt255 => ((laws_eqProg.f k bt240.1 bt240.2 bt255.1 bt255.2).bind fun t261 => (if t261 = true then ((laws_toProg.f k l1_0 l1_1).bind fun bt262 => ((laws_eqProg.f k bt247.1 bt247.2 bt262.1 bt262.2).bind fun t268 => (if t268 = true then (some true) else (some false)))) else (some false))))))))) = some r := H
      have A20 := Aside0.mk A200
      clear A200
      replace H := Option.bind_eq_some_iff.mp H
      obtain ⟨t239, A210, H⟩ := H
      replace H : ((laws_toProg.f k l0_0 l0_1).bind fun bt240 => ((laws_toProg.f k l1_0 l1_1).bind fun bt247 => ((impl_SameProg.f k bt240.1 bt240.2 bt247.1 bt247.2).bind fun t254 => (if (t254 != t239) = true then (some false) else ((laws_toProg.f k l0_0 l0_1).bind fun bt255 => ((laws_eqProg.f k bt240.1 bt240.2 bt255.1 bt255.2).bind fun t261 => (if t261 = true then ((laws_toProg.f k l1_0 l1_1).bind fun bt262 => ((laws_eqProg.f k bt247.1 bt247.2 bt262.1 bt262.2).bind fun t268 => (if t268 = true then (some true) else (some false)))) else (some false)))))))) = some r := H
      have A21 := Aside0.mk A210
      clear A210
      replace H := Option.bind_eq_some_iff.mp H
      obtain ⟨⟨t240, t243⟩, A220, H⟩ := H
      replace H : ((laws_toProg.f k l1_0 l1_1).bind fun bt247 => ((impl_SameProg.f k t240 t243 bt247.1 bt247.2).bind fun t254 => (if (t254 != t239) = true then (some false) else ((laws_toProg.f k l0_0 l0_1).bind fun bt255 => ((laws_eqProg.f k t240 t243 bt255.1 bt255.2).bind fun t261 => (if t261 = true then ((laws_toProg.f k l1_0 l1_1).bind fun bt262 => ((laws_eqProg.f k bt247.1 bt247.2 bt262.1 bt262.2).bind fun t268 => (if t268 = true then (some true) else (some false)))) else (some false))))))) = some r := H
      have A22 := Aside0.mk A220
      clear A220
      replace H := Option.bind_eq_some_iff.mp H
      obtain ⟨⟨t247, t250⟩, A230, H⟩ := H
      replace H : ((impl_SameProg.f k t240 t243 t247 t250).bind fun t254 => (if (t254 != t239) = true then (some false) else ((laws_toProg.f k l0_0 l0_1).bind fun bt255 => ((laws_eqProg.f k t240 t243 bt255.1 bt255.2).bind fun t261 => (if t261 = true then ((laws_toProg.f k l1_0 l1_1).bind fun bt262 => ((laws_eqProg.f k t247 t250 bt262.1 bt262.2).bind fun t268 => (if t268 = true then (some true) else (some false)))) else (some false)))))) = some r := H
      have A23 := Aside0.mk A230
      clear A230
      replace H := Option.bind_eq_some_iff.mp H
      obtain ⟨t254, A240, H⟩ := H
      replace H : (if (t254 != t239) = true then (some false) else ((laws_toProg.f k l0_0 l0_1).bind fun bt255 => ((laws_eqProg.f k t240 t243 bt255.1 bt255.2).bind fun t261 => (if t261 = true then ((laws_toProg.f k l1_0 l1_1).bind fun bt262 => ((laws_eqProg.f k t247 t250 bt262.1 bt262.2).bind fun t268 => (if t268 = true then (some true) else (some false)))) else (some false))))) = some r := H
      have A24 := Aside0.mk A240
      clear A240
      by_cases c25 : (t254 != t239) = true
      · rw [if_pos c25] at H
        have c25b0 : (t254 != t239) = true := c25
        (try (have c25b1 : decide (t254 = t239) = false := by simpa using c25))
        (try (have c25b2 : (t254 == t239) = false := by simpa using c25))
        (try (have c25b3 : ¬ (t254 = t239) := by simpa using c25))
        clear c25
        exact absurd ((Option.some.inj H).trans hr1) (by simp)
      · rw [if_neg c25] at H
        have c25b0 : (t254 != t239) = false := by simpa using c25
        (try (have c25b1 : decide (t254 = t239) = true := by simpa using c25))
        (try (have c25b2 : (t254 == t239) = true := by simpa using c25))
        clear c25
        replace H := Option.bind_eq_some_iff.mp H
        obtain ⟨⟨t255, t258⟩, A260, H⟩ := H
        replace H : ((laws_eqProg.f k t240 t243 t255 t258).bind fun t261 => (if t261 = true then ((laws_toProg.f k l1_0 l1_1).bind fun bt262 => ((laws_eqProg.f k t247 t250 bt262.1 bt262.2).bind fun t268 => (if t268 = true then (some true) else (some false)))) else (some false))) = some r := H
        have A26 := Aside0.mk A260
        clear A260
        replace H := Option.bind_eq_some_iff.mp H
        obtain ⟨t261, A270, H⟩ := H
        replace H : (if t261 = true then ((laws_toProg.f k l1_0 l1_1).bind fun bt262 => ((laws_eqProg.f k t247 t250 bt262.1 bt262.2).bind fun t268 => (if t268 = true then (some true) else (some false)))) else (some false)) = some r := H
        have A27 := Aside0.mk A270
        clear A270
        by_cases c28 : t261 = true
        · subst c28
          have H1 : ((laws_toProg.f k l1_0 l1_1).bind fun bt262 => ((laws_eqProg.f k t247 t250 bt262.1 bt262.2).bind fun t268 => (if t268 = true then (some true) else (some false)))) = some r := by rw [if_pos rfl] at H; exact H
          clear H
          have H := H1
          clear H1
          replace H := Option.bind_eq_some_iff.mp H
          obtain ⟨⟨t262, t265⟩, A290, H⟩ := H
          replace H : ((laws_eqProg.f k t247 t250 t262 t265).bind fun t268 => (if t268 = true then (some true) else (some false))) = some r := H
          have A29 := Aside0.mk A290
          clear A290
          replace H := Option.bind_eq_some_iff.mp H
          obtain ⟨t268, A300, H⟩ := H
          replace H : (if t268 = true then (some true) else (some false)) = some r := H
          have A30 := Aside0.mk A300
          clear A300
          by_cases c31 : t268 = true
          · subst c31
            have H1 : (some true) = some r := by rw [if_pos rfl] at H; exact H
            clear H
            have H := H1
            clear H1
            obtain rfl := Option.some.inj H
            go_enter Try.func5, Try.ntmps5
            try go_wp2_with (first | ((with_reducible refine gate_dst (N := 2) rfl ?_); refine box_event ?hg (N := 2) ?hd (cs := #[.slice A0_0 l0_0.length c0_0, .slice A0_1 l0_1.length c0_1]) (t := 27) ?hr ?_; (case hd => rfl); (case hg => rfl); (case hr => first | (go_simp; done) | (go_simp; rfl)); intro gb223 hg w32 hbox hb; have n0_ := Aside0.mk (below_step (carH HB.out) hb); have n1_ := Aside0.mk (hbox); have n2_ := Aside0.mk ((by rw [hg]; exact (below_size (carH HB.out)) : w.heap.size ≤ gb223)); have n3_ := Aside0.mk ((by rw [hg]; exact (below_size (carH HB.out)) : w.heap.size ≤ gb223)); clear HB; have HB := n0_; have BK223 := n1_; have GW223 := n2_; have GE223 := n3_; clear n0_ n1_ n2_ n3_; clear hb hbox hg) | ((with_reducible refine gate_dst (N := 3) rfl ?_); refine box_event ?hg (N := 3) ?hd (cs := #[.slice A1_0 l1_0.length c1_0, .slice A1_1 l1_1.length c1_1]) (t := 27) ?hr ?_; (case hd => rfl); (case hg => rfl); (case hr => first | (go_simp; done) | (go_simp; rfl)); intro gb224 hg w33 hbox hb; have n0_ := Aside0.mk (blk_below (g := gb223) (o := .cells #[.slice A0_0 l0_0.length c0_0, .slice A0_1 l0_1.length c0_1] 27 (0, 0)) (carB BK223.out) hb); have n1_ := Aside0.mk (below_step (carH HB.out) hb); have n2_ := Aside0.mk (hbox); have n3_ := Aside0.mk ((by rw [hg]; exact (below_size (carH HB.out)) : w.heap.size ≤ gb224)); have n4_ := Aside0.mk ((by rw [hg]; exact (below_size (carH HB.out)) : w.heap.size ≤ gb224)); have n5_ := Aside0.mk ((by rw [hg]; exact Nat.ne_of_lt (blk_lt (g := gb223) (o := .cells #[.slice A0_0 l0_0.length c0_0, .slice A0_1 l0_1.length c0_1] 27 (0, 0)) (carB BK223.out)) : gb223 ≠ gb224)); have n6_ := Aside0.mk ((by rw [hg]; exact Nat.ne_of_gt (blk_lt (g := gb223) (o := .cells #[.slice A0_0 l0_0.length c0_0, .slice A0_1 l0_1.length c0_1] 27 (0, 0)) (carB BK223.out)) : gb224 ≠ gb223)); clear BK223; clear HB; have BK223 := n0_; have HB := n1_; have BK224 := n2_; have GW224 := n3_; have GE224 := n4_; have NB223_224 := n5_; have NB224_223 := n6_; clear n0_ n1_ n2_ n3_ n4_ n5_ n6_; clear hb hbox hg; have hnb34 := NB223_224.out; have hnc34 := NB224_223.out; have hcz35_0 : w33.cell? ⟨gb223, 0, none⟩ = some (.slice A0_0 l0_0.length c0_0) := (blk_cell BK223.out 0).trans rfl; have hcz35_1 : w33.cell? ⟨gb223, 1, none⟩ = some (.slice A0_1 l0_1.length c0_1) := (blk_cell BK223.out 1).trans rfl; have hfz35_0 := blk_frozen BK223.out 0; have hfz35_1 := blk_frozen BK223.out 1) | ((with_reducible refine gate_callee (f := 8) rfl ?_); refine goesL_ (some 12) rfl rfl Try.func8 (by kernel_rfl) rfl #[.agg #[.slice A0_0 l0_0.length c0_0, .slice A0_1 l0_1.length c0_1], .int .i64 1048576] rfl (by (try simp only [List.map_toArray, List.map_cons, List.map_nil]); first | done | rfl | (simp only [List.length_drop, List.length_take]; rfl)) ?_; (with_reducible refine (laws_szProg.calls k _ _ l0_0 _ _ l0_1 1048576 t225 _ ?side1 ?side2 ?side3 ?side4 A3.out).mono ?_); (case side1 => repeat (first | exact (Kd.C_below HR0_0.out HB.out) | (with_reducible refine Kd.C_alloc ?_ _) | (with_reducible refine Kd.C_drewN ?_ _) | (with_reducible refine Kd.C_drew ?_))); (case side2 => exact HC0_0.out); (case side3 => repeat (first | exact (Kd.C_below HR0_1.out HB.out) | (with_reducible refine Kd.C_alloc ?_ _) | (with_reducible refine Kd.C_drewN ?_ _) | (with_reducible refine Kd.C_drew ?_))); (case side4 => exact HC0_1.out); rintro e w36 ⟨rfl, hb⟩; refine ⟨_, rfl, ?_⟩; have n0_ := Aside0.mk (blk_below (g := gb223) (o := .cells #[.slice A0_0 l0_0.length c0_0, .slice A0_1 l0_1.length c0_1] 27 (0, 0)) (carB BK223.out) hb); have n1_ := Aside0.mk (blk_below (g := gb224) (o := .cells #[.slice A1_0 l1_0.length c1_0, .slice A1_1 l1_1.length c1_1] 27 (0, 0)) (carB BK224.out) hb); have n2_ := Aside0.mk (below_step (carH HB.out) hb); clear BK223; clear BK224; clear HB; have BK223 := n0_; have BK224 := n1_; have HB := n2_; clear n0_ n1_ n2_; (try clear hb); (try clear hb2); (try clear hk); (try clear hi); have hcz37_0 : w36.cell? ⟨gb224, 0, none⟩ = some (.slice A1_0 l1_0.length c1_0) := (blk_cell BK224.out 0).trans rfl; have hcz37_1 : w36.cell? ⟨gb224, 1, none⟩ = some (.slice A1_1 l1_1.length c1_1) := (blk_cell BK224.out 1).trans rfl; have hfz37_0 := blk_frozen BK224.out 0; have hfz37_1 := blk_frozen BK224.out 1) | ((with_reducible refine gate_callee (f := 8) rfl ?_); refine goesL_ (some 17) rfl rfl Try.func8 (by kernel_rfl) rfl #[.agg #[.slice A1_0 l1_0.length c1_0, .slice A1_1 l1_1.length c1_1], .int .i64 t225] rfl (by (try simp only [List.map_toArray, List.map_cons, List.map_nil]); first | done | rfl | (simp only [List.length_drop, List.length_take]; rfl)) ?_; (with_reducible refine (laws_szProg.calls k _ _ l1_0 _ _ l1_1 t225 t226 _ ?side1 ?side2 ?side3 ?side4 A10.out).mono ?_); (case side1 => repeat (first | exact (Kd.C_below HR1_0.out HB.out) | (with_reducible refine Kd.C_alloc ?_ _) | (with_reducible refine Kd.C_drewN ?_ _) | (with_reducible refine Kd.C_drew ?_))); (case side2 => exact HC1_0.out); (case side3 => repeat (first | exact (Kd.C_below HR1_1.out HB.out) | (with_reducible refine Kd.C_alloc ?_ _) | (with_reducible refine Kd.C_drewN ?_ _) | (with_reducible refine Kd.C_drew ?_))); (case side4 => exact HC1_1.out); rintro e w38 ⟨rfl, hb⟩; refine ⟨_, rfl, ?_⟩; have n0_ := Aside0.mk (blk_below (g := gb223) (o := .cells #[.slice A0_0 l0_0.length c0_0, .slice A0_1 l0_1.length c0_1] 27 (0, 0)) (carB BK223.out) hb); have n1_ := Aside0.mk (blk_below (g := gb224) (o := .cells #[.slice A1_0 l1_0.length c1_0, .slice A1_1 l1_1.length c1_1] 27 (0, 0)) (carB BK224.out) hb); have n2_ := Aside0.mk (below_step (carH HB.out) hb); clear BK223; clear BK224; clear HB; have BK223 := n0_; have BK224 := n1_; have HB := n2_; clear n0_ n1_ n2_; (try clear hb); (try clear hb2); (try clear hk); (try clear hi)))
            have n0_ := Aside0.mk (blk_drew BK223.out)
            have n1_ := Aside0.mk (blk_drew BK224.out)
            have n2_ := Aside0.mk (below_drew1 HB.out)
            clear BK223
            clear BK224
            clear HB
            have BK223 := n0_
            have BK224 := n1_
            have HB := n2_
            clear n0_ n1_ n2_
            refine start_ (n := 6) (S := fun w' => w'.cell? ⟨gb223, 0, none⟩ = some (.slice A0_0 l0_0.length c0_0) ∧ w'.cell? ⟨gb223, 1, none⟩ = some (.slice A0_1 l0_1.length c0_1) ∧ w'.cell? ⟨gb224, 0, none⟩ = some (.slice A1_0 l1_0.length c1_0) ∧ w'.cell? ⟨gb224, 1, none⟩ = some (.slice A1_1 l1_1.length c1_1)) (ds := []) #[false, false, false, false, false, false] (by kernel_rfl) rfl rfl ⟨(blk_cell BK223.out 0).trans rfl, (blk_cell BK223.out 1).trans rfl, (blk_cell BK224.out 0).trans rfl, (blk_cell BK224.out 1).trans rfl⟩ (fun hHeld => ?_)
            generalize w38.drew = w39 at BK223 BK224 HB hHeld ⊢
            refine take_ (i := 0) (N := some 20) (v := ?_) (a' := ?_) #[true, false, false, false, false, false] rfl rfl (by kernel_rfl) (fun _ _ _ h => h) (Or.inl ⟨by rfl, ?_⟩) hHeld ?_ ?_
            rotate_left
            · rintro w' ⟨s0, s1, s2, s3⟩
              go_simp
              with_reducible rfl
            rotate_left
            · simp only [Act.put, List.setIfInBounds_toArray, List.set_cons_zero, List.set_cons_succ, i64_w, i32_w]
              rfl
            refine take_ (i := 2) (N := some 22) (v := ?_) (a' := ?_) #[true, false, true, false, false, false] rfl rfl (by kernel_rfl) (fun _ _ _ h => h) (Or.inl ⟨by rfl, ?_⟩) hHeld ?_ ?_
            rotate_left
            · rintro w' ⟨s0, s1, s2, s3⟩
              go_simp
              with_reducible rfl
            rotate_left
            · simp only [Act.put, List.setIfInBounds_toArray, List.set_cons_zero, List.set_cons_succ, i64_w, i32_w]
              rfl
            refine one_ (i := 1) (N := some 21) #[true, true, true, false, false, false] rfl rfl (by kernel_rfl) (by decide) (fun K hK => ?_)
            refine goes_ Try.func10 (by kernel_rfl) rfl #[.agg #[.slice A0_0 l0_0.length c0_0, .slice A0_1 l0_1.length c0_1]] (by rfl) rfl rfl (by (try simp only [List.map_toArray, List.map_cons, List.map_nil]); first | done | rfl | (simp only [List.length_drop, List.length_take]; rfl)) ?_
            with_reducible refine (laws_toProg.calls k _ _ l0_0 _ _ l0_1 t227 t230 _ ?side1 ?side2 ?side3 ?side4 A19.out).mono ?_
            (case side1 => repeat (first | exact (Kd.C_below HR0_0.out HB.out) | (with_reducible refine Kd.C_alloc ?_ _) | (with_reducible refine Kd.C_drewN ?_ _) | (with_reducible refine Kd.C_drew ?_)))
            (case side2 => exact HC0_0.out)
            (case side3 => repeat (first | exact (Kd.C_below HR0_1.out HB.out) | (with_reducible refine Kd.C_alloc ?_ _) | (with_reducible refine Kd.C_drewN ?_ _) | (with_reducible refine Kd.C_drew ?_)))
            (case side4 => exact HC0_1.out)
            rintro e w40 ⟨v228, v231, rfl, ho0, ho1, hb⟩
            refine ⟨_, rfl, ?_⟩
            have n0_ := Aside0.mk (Kd.S_lower ho0 (below_size (carH HB.out)))
            have n1_ := Aside0.mk (Kd.S_lower ho1 (below_size (carH HB.out)))
            have n2_ := Aside0.mk (blk_below (g := gb223) (o := .cells #[.slice A0_0 l0_0.length c0_0, .slice A0_1 l0_1.length c0_1] 27 (0, 0)) (carB BK223.out) hb)
            have n3_ := Aside0.mk (blk_below (g := gb224) (o := .cells #[.slice A1_0 l1_0.length c1_0, .slice A1_1 l1_1.length c1_1] 27 (0, 0)) (carB BK224.out) hb)
            have n4_ := Aside0.mk (below_step (carH HB.out) hb)
            clear BK223
            clear BK224
            clear HB
            have HO229 := n0_
            have HO232 := n1_
            have BK223 := n2_
            have BK224 := n3_
            have HB := n4_
            clear n0_ n1_ n2_ n3_ n4_
            (try clear hb)
            (try clear hb2)
            (try clear hk)
            (try clear hi)
            (try clear ho0)
            (try clear ho1)
            refine hK.out _ _ ⟨(blk_cell BK223.out 0).trans rfl, (blk_cell BK223.out 1).trans rfl, (blk_cell BK224.out 0).trans rfl, (blk_cell BK224.out 1).trans rfl⟩ (fun hHeld => ?_)
            clear hK K
            refine norm_ (a' := ?_) ?_ ?_
            rotate_left
            · show Act.put _ (some 21) _ = _
              simp only [Act.put, List.setIfInBounds_toArray, List.set_cons_zero, List.set_cons_succ, i64_w, i32_w]
              rfl
            refine one_ (i := 3) (N := some 23) #[true, true, true, true, false, false] rfl rfl (by kernel_rfl) (by decide) (fun K hK => ?_)
            refine goes_ Try.func10 (by kernel_rfl) rfl #[.agg #[.slice A1_0 l1_0.length c1_0, .slice A1_1 l1_1.length c1_1]] (by rfl) rfl rfl (by (try simp only [List.map_toArray, List.map_cons, List.map_nil]); first | done | rfl | (simp only [List.length_drop, List.length_take]; rfl)) ?_
            with_reducible refine (laws_toProg.calls k _ _ l1_0 _ _ l1_1 t233 t236 _ ?side1 ?side2 ?side3 ?side4 A20.out).mono ?_
            (case side1 => repeat (first | exact (Kd.C_below HR1_0.out HB.out) | (with_reducible refine Kd.C_alloc ?_ _) | (with_reducible refine Kd.C_drewN ?_ _) | (with_reducible refine Kd.C_drew ?_)))
            (case side2 => exact HC1_0.out)
            (case side3 => repeat (first | exact (Kd.C_below HR1_1.out HB.out) | (with_reducible refine Kd.C_alloc ?_ _) | (with_reducible refine Kd.C_drewN ?_ _) | (with_reducible refine Kd.C_drew ?_)))
            (case side4 => exact HC1_1.out)
            rintro e w41 ⟨v234, v237, rfl, ho0, ho1, hb⟩
            refine ⟨_, rfl, ?_⟩
            have n0_ := Aside0.mk (Kd.S_elder' (carS HO229.out) (Kd.S_base ho0) hb)
            have n1_ := Aside0.mk (Kd.S_elder' (carS HO232.out) (Kd.S_base ho1) hb)
            have n2_ := Aside0.mk (Kd.S_lower (Kd.S_new' ho0 (Kd.S_lt (carS HO229.out))) (below_size (carH HB.out)))
            have n3_ := Aside0.mk (Kd.S_lower (Kd.S_new' ho1 (Kd.S_lt (carS HO232.out))) (below_size (carH HB.out)))
            have n4_ := Aside0.mk (blk_below (g := gb223) (o := .cells #[.slice A0_0 l0_0.length c0_0, .slice A0_1 l0_1.length c0_1] 27 (0, 0)) (carB BK223.out) hb)
            have n5_ := Aside0.mk (blk_below (g := gb224) (o := .cells #[.slice A1_0 l1_0.length c1_0, .slice A1_1 l1_1.length c1_1] 27 (0, 0)) (carB BK224.out) hb)
            have n6_ := Aside0.mk (below_step (carH HB.out) hb)
            clear HO229
            clear HO232
            clear BK223
            clear BK224
            clear HB
            have HO229 := n0_
            have HO232 := n1_
            have HO235 := n2_
            have HO238 := n3_
            have BK223 := n4_
            have BK224 := n5_
            have HB := n6_
            clear n0_ n1_ n2_ n3_ n4_ n5_ n6_
            (try clear hb)
            (try clear hb2)
            (try clear hk)
            (try clear hi)
            (try clear ho0)
            (try clear ho1)
            obtain ⟨Ao42, co42, eo42⟩ := Kd.S_slice HO229.out
            (first | subst eo42 | (injection eo42 with f1_ f2_ f3_; have f4_ := f1_.symm; have f5_ := f3_.symm; clear f1_ f2_ f3_; subst f4_; subst f5_))
            obtain ⟨Ao43, co43, eo43⟩ := Kd.S_slice HO232.out
            (first | subst eo43 | (injection eo43 with f1_ f2_ f3_; have f4_ := f1_.symm; have f5_ := f3_.symm; clear f1_ f2_ f3_; subst f4_; subst f5_))
            obtain ⟨Ao44, co44, eo44⟩ := Kd.S_slice HO235.out
            (first | subst eo44 | (injection eo44 with f1_ f2_ f3_; have f4_ := f1_.symm; have f5_ := f3_.symm; clear f1_ f2_ f3_; subst f4_; subst f5_))
            obtain ⟨Ao45, co45, eo45⟩ := Kd.S_slice HO238.out
            (first | subst eo45 | (injection eo45 with f1_ f2_ f3_; have f4_ := f1_.symm; have f5_ := f3_.symm; clear f1_ f2_ f3_; subst f4_; subst f5_))
            refine hK.out _ _ ⟨(blk_cell BK223.out 0).trans rfl, (blk_cell BK223.out 1).trans rfl, (blk_cell BK224.out 0).trans rfl, (blk_cell BK224.out 1).trans rfl⟩ (fun hHeld => ?_)
            clear hK K
            refine norm_ (a' := ?_) ?_ ?_
            rotate_left
            · show Act.put _ (some 23) _ = _
              simp only [Act.put, List.setIfInBounds_toArray, List.set_cons_zero, List.set_cons_succ, i64_w, i32_w]
              rfl
            refine one_ (i := 4) (N := some 24) #[true, true, true, true, true, false] rfl rfl (by kernel_rfl) (by decide) (fun K hK => ?_)
            refine goes_ Try.func13 (by kernel_rfl) rfl #[.agg #[.slice Ao42 t227.length co42, .slice Ao43 t230.length co43], .agg #[.slice Ao44 t233.length co44, .slice Ao45 t236.length co45]] (by rfl) rfl rfl (by (try simp only [List.map_toArray, List.map_cons, List.map_nil]); first | done | rfl | (simp only [List.length_drop, List.length_take]; rfl)) ?_
            with_reducible refine (spec_SameProg.calls k _ _ t227 _ _ t230 _ _ t233 _ _ t236 t239 _ ?side1 ?side2 ?side3 ?side4 ?side5 ?side6 ?side7 ?side8 A21.out).mono ?_
            (case side1 => repeat (first | exact (Kd.S_reads' HO229.out).2.2 | (with_reducible refine Kd.C_alloc ?_ _) | (with_reducible refine Kd.C_drewN ?_ _) | (with_reducible refine Kd.C_drew ?_)))
            (case side2 => exact (Kd.S_reads' HO229.out).2.1)
            (case side3 => repeat (first | exact (Kd.S_reads' HO232.out).2.2 | (with_reducible refine Kd.C_alloc ?_ _) | (with_reducible refine Kd.C_drewN ?_ _) | (with_reducible refine Kd.C_drew ?_)))
            (case side4 => exact (Kd.S_reads' HO232.out).2.1)
            (case side5 => repeat (first | exact (Kd.S_reads' HO235.out).2.2 | (with_reducible refine Kd.C_alloc ?_ _) | (with_reducible refine Kd.C_drewN ?_ _) | (with_reducible refine Kd.C_drew ?_)))
            (case side6 => exact (Kd.S_reads' HO235.out).2.1)
            (case side7 => repeat (first | exact (Kd.S_reads' HO238.out).2.2 | (with_reducible refine Kd.C_alloc ?_ _) | (with_reducible refine Kd.C_drewN ?_ _) | (with_reducible refine Kd.C_drew ?_)))
            (case side8 => exact (Kd.S_reads' HO238.out).2.1)
            rintro e w46 ⟨rfl, hb⟩
            refine ⟨_, rfl, ?_⟩
            have n0_ := Aside0.mk (Kd.S_below (carS HO229.out) hb)
            have n1_ := Aside0.mk (Kd.S_below (carS HO232.out) hb)
            have n2_ := Aside0.mk (Kd.S_below (carS HO235.out) hb)
            have n3_ := Aside0.mk (Kd.S_below (carS HO238.out) hb)
            have n4_ := Aside0.mk (blk_below (g := gb223) (o := .cells #[.slice A0_0 l0_0.length c0_0, .slice A0_1 l0_1.length c0_1] 27 (0, 0)) (carB BK223.out) hb)
            have n5_ := Aside0.mk (blk_below (g := gb224) (o := .cells #[.slice A1_0 l1_0.length c1_0, .slice A1_1 l1_1.length c1_1] 27 (0, 0)) (carB BK224.out) hb)
            have n6_ := Aside0.mk (below_step (carH HB.out) hb)
            clear HO229
            clear HO232
            clear HO235
            clear HO238
            clear BK223
            clear BK224
            clear HB
            have HO229 := n0_
            have HO232 := n1_
            have HO235 := n2_
            have HO238 := n3_
            have BK223 := n4_
            have BK224 := n5_
            have HB := n6_
            clear n0_ n1_ n2_ n3_ n4_ n5_ n6_
            (try clear hb)
            (try clear hb2)
            (try clear hk)
            (try clear hi)
            refine hK.out _ _ ⟨(blk_cell BK223.out 0).trans rfl, (blk_cell BK223.out 1).trans rfl, (blk_cell BK224.out 0).trans rfl, (blk_cell BK224.out 1).trans rfl⟩ (fun hHeld => ?_)
            clear hK K
            refine norm_ (a' := ?_) ?_ ?_
            rotate_left
            · show Act.put _ (some 24) _ = _
              simp only [Act.put, List.setIfInBounds_toArray, List.set_cons_zero, List.set_cons_succ, i64_w, i32_w]
              rfl
            refine pure_ (i := 5) (N := some 6) (v := ?_) (a' := ?_) #[true, true, true, true, true, true] rfl rfl (by kernel_rfl) (fun _ _ _ h => h) (Or.inl ⟨by rfl, ?_⟩) ?_ ?_
            rotate_left
            · intro w'
              go_simp
              with_reducible rfl
            rotate_left
            · simp only [Act.put, List.setIfInBounds_toArray, List.set_cons_zero, List.set_cons_succ, i64_w, i32_w]
              rfl
            refine done_ (by kernel_rfl) ?_
            have hcz47_0 : w46.cell? ⟨gb223, 0, none⟩ = some (.slice A0_0 l0_0.length c0_0) := (blk_cell BK223.out 0).trans rfl
            have hcz47_1 : w46.cell? ⟨gb223, 1, none⟩ = some (.slice A0_1 l0_1.length c0_1) := (blk_cell BK223.out 1).trans rfl
            have hfz47_0 := blk_frozen BK223.out 0
            have hfz47_1 := blk_frozen BK223.out 1
            try go_wp2_with (first | ((with_reducible refine gate_callee (f := 10) rfl ?_); refine goesL_ (some 26) rfl rfl Try.func10 (by kernel_rfl) rfl #[.agg #[.slice A0_0 l0_0.length c0_0, .slice A0_1 l0_1.length c0_1]] rfl (by (try simp only [List.map_toArray, List.map_cons, List.map_nil]); first | done | rfl | (simp only [List.length_drop, List.length_take]; rfl)) ?_; (with_reducible refine (laws_toProg.calls k _ _ l0_0 _ _ l0_1 t240 t243 _ ?side1 ?side2 ?side3 ?side4 A22.out).mono ?_); (case side1 => repeat (first | exact (Kd.C_below HR0_0.out HB.out) | (with_reducible refine Kd.C_alloc ?_ _) | (with_reducible refine Kd.C_drewN ?_ _) | (with_reducible refine Kd.C_drew ?_))); (case side2 => exact HC0_0.out); (case side3 => repeat (first | exact (Kd.C_below HR0_1.out HB.out) | (with_reducible refine Kd.C_alloc ?_ _) | (with_reducible refine Kd.C_drewN ?_ _) | (with_reducible refine Kd.C_drew ?_))); (case side4 => exact HC0_1.out); rintro e w48 ⟨v241, v244, rfl, ho0, ho1, hb⟩; refine ⟨_, rfl, ?_⟩; have n0_ := Aside0.mk (Kd.S_elder' (carS HO229.out) (Kd.S_base ho0) hb); have n1_ := Aside0.mk (Kd.S_elder' (carS HO232.out) (Kd.S_base ho1) hb); have n2_ := Aside0.mk (Kd.S_elder' (carS HO235.out) (Kd.S_base ho0) hb); have n3_ := Aside0.mk (Kd.S_elder' (carS HO238.out) (Kd.S_base ho1) hb); have n4_ := Aside0.mk (Kd.S_lower (Kd.S_new' (Kd.S_new' ho0 (Kd.S_lt (carS HO229.out))) (Kd.S_lt (carS HO235.out))) (below_size (carH HB.out))); have n5_ := Aside0.mk (Kd.S_lower (Kd.S_new' (Kd.S_new' ho1 (Kd.S_lt (carS HO232.out))) (Kd.S_lt (carS HO238.out))) (below_size (carH HB.out))); have n6_ := Aside0.mk (blk_below (g := gb223) (o := .cells #[.slice A0_0 l0_0.length c0_0, .slice A0_1 l0_1.length c0_1] 27 (0, 0)) (carB BK223.out) hb); have n7_ := Aside0.mk (blk_below (g := gb224) (o := .cells #[.slice A1_0 l1_0.length c1_0, .slice A1_1 l1_1.length c1_1] 27 (0, 0)) (carB BK224.out) hb); have n8_ := Aside0.mk (below_step (carH HB.out) hb); clear HO229; clear HO232; clear HO235; clear HO238; clear BK223; clear BK224; clear HB; have HO229 := n0_; have HO232 := n1_; have HO235 := n2_; have HO238 := n3_; have HO242 := n4_; have HO245 := n5_; have BK223 := n6_; have BK224 := n7_; have HB := n8_; clear n0_ n1_ n2_ n3_ n4_ n5_ n6_ n7_ n8_; (try clear hb); (try clear hb2); (try clear hk); (try clear hi); (try clear ho0); (try clear ho1)) | ((with_reducible refine gate_dst (N := 7) rfl ?_); refine box_event ?hg (N := 7) ?hd (cs := #[.slice none 0 0, .slice none 0 0]) (t := 33) ?hr ?_; (case hd => rfl); (case hg => rfl); (case hr => first | (go_simp; done) | (go_simp; rfl)); intro gb246 hg w49 hbox hb; have n0_ := Aside0.mk (Kd.S_below (carS HO229.out) hb); have n1_ := Aside0.mk (Kd.S_below (carS HO232.out) hb); have n2_ := Aside0.mk (Kd.S_below (carS HO235.out) hb); have n3_ := Aside0.mk (Kd.S_below (carS HO238.out) hb); have n4_ := Aside0.mk (Kd.S_below (carS HO242.out) hb); have n5_ := Aside0.mk (Kd.S_below (carS HO245.out) hb); have n6_ := Aside0.mk (blk_below (g := gb223) (o := .cells #[.slice A0_0 l0_0.length c0_0, .slice A0_1 l0_1.length c0_1] 27 (0, 0)) (carB BK223.out) hb); have n7_ := Aside0.mk (blk_below (g := gb224) (o := .cells #[.slice A1_0 l1_0.length c1_0, .slice A1_1 l1_1.length c1_1] 27 (0, 0)) (carB BK224.out) hb); have n8_ := Aside0.mk (below_step (carH HB.out) hb); have n9_ := Aside0.mk (hbox); have n10_ := Aside0.mk ((by rw [hg]; exact (below_size (carH HB.out)) : w.heap.size ≤ gb246)); have n11_ := Aside0.mk ((by rw [hg]; exact (below_size (carH HB.out)) : w.heap.size ≤ gb246)); have n12_ := Aside0.mk ((by rw [hg]; exact Nat.ne_of_lt (blk_lt (g := gb223) (o := .cells #[.slice A0_0 l0_0.length c0_0, .slice A0_1 l0_1.length c0_1] 27 (0, 0)) (carB BK223.out)) : gb223 ≠ gb246)); have n13_ := Aside0.mk ((by rw [hg]; exact Nat.ne_of_gt (blk_lt (g := gb223) (o := .cells #[.slice A0_0 l0_0.length c0_0, .slice A0_1 l0_1.length c0_1] 27 (0, 0)) (carB BK223.out)) : gb246 ≠ gb223)); have n14_ := Aside0.mk ((by rw [hg]; exact Nat.ne_of_lt (blk_lt (g := gb224) (o := .cells #[.slice A1_0 l1_0.length c1_0, .slice A1_1 l1_1.length c1_1] 27 (0, 0)) (carB BK224.out)) : gb224 ≠ gb246)); have n15_ := Aside0.mk ((by rw [hg]; exact Nat.ne_of_gt (blk_lt (g := gb224) (o := .cells #[.slice A1_0 l1_0.length c1_0, .slice A1_1 l1_1.length c1_1] 27 (0, 0)) (carB BK224.out)) : gb246 ≠ gb224)); clear HO229; clear HO232; clear HO235; clear HO238; clear HO242; clear HO245; clear BK223; clear BK224; clear HB; have HO229 := n0_; have HO232 := n1_; have HO235 := n2_; have HO238 := n3_; have HO242 := n4_; have HO245 := n5_; have BK223 := n6_; have BK224 := n7_; have HB := n8_; have BK246 := n9_; have GW246 := n10_; have GE246 := n11_; have NB223_246 := n12_; have NB246_223 := n13_; have NB224_246 := n14_; have NB246_224 := n15_; clear n0_ n1_ n2_ n3_ n4_ n5_ n6_ n7_ n8_ n9_ n10_ n11_ n12_ n13_ n14_ n15_; clear hb hbox hg; obtain ⟨Ao50, co50, eo50⟩ := Kd.S_slice HO242.out; subst eo50; have hnb51 := NB246_223.out; have hnc51 := NB223_246.out; have hnb52 := NB246_224.out; have hnc52 := NB224_246.out; have hcz53_0 : w49.cell? ⟨gb246, 0, none⟩ = some (.slice none 0 0) := (blk_cell BK246.out 0).trans rfl; have hcz53_1 : w49.cell? ⟨gb246, 1, none⟩ = some (.slice none 0 0) := (blk_cell BK246.out 1).trans rfl; have hfz53_0 := blk_frozen BK246.out 0; have hfz53_1 := blk_frozen BK246.out 1; obtain ⟨Ao54, co54, eo54⟩ := Kd.S_slice HO245.out; subst eo54; have hcz55_0 : w49.cell? ⟨gb224, 0, none⟩ = some (.slice A1_0 l1_0.length c1_0) := (blk_cell BK224.out 0).trans rfl; have hcz55_1 : w49.cell? ⟨gb224, 1, none⟩ = some (.slice A1_1 l1_1.length c1_1) := (blk_cell BK224.out 1).trans rfl; have hfz55_0 := blk_frozen BK224.out 0; have hfz55_1 := blk_frozen BK224.out 1) | ((with_reducible refine gate_callee (f := 10) rfl ?_); refine goesL_ (some 28) rfl rfl Try.func10 (by kernel_rfl) rfl #[.agg #[.slice A1_0 l1_0.length c1_0, .slice A1_1 l1_1.length c1_1]] rfl (by (try simp only [List.map_toArray, List.map_cons, List.map_nil]); first | done | rfl | (simp only [List.length_drop, List.length_take]; rfl)) ?_; (with_reducible refine (laws_toProg.calls k _ _ l1_0 _ _ l1_1 t247 t250 _ ?side1 ?side2 ?side3 ?side4 A23.out).mono ?_); (case side1 => exact Kd.C_below HR1_0.out (carH HB.out)); (case side2 => exact HC1_0.out); (case side3 => exact Kd.C_below HR1_1.out (carH HB.out)); (case side4 => exact HC1_1.out); rintro e w56 ⟨v248, v251, rfl, ho0, ho1, hb⟩; refine ⟨_, rfl, ?_⟩; have n0_ := Aside0.mk (Kd.S_elder' (by (with_reducible repeat (first | apply Kd.S_alloc | apply Kd.S_drewN | apply Kd.S_drew)); exact (Kd.S_mono (Kd.S_far (p := ⟨gb246, 1, none⟩) (Kd.S_far (p := ⟨gb246, 0, none⟩) (Kd.S_types HO229.out BK246.out (by decide)) (fun _ hk => hk.2) (.slice Ao50 t240.length co50)) (fun _ hk => hk.2) (.slice Ao54 t243.length co54)) (fun _ h_ => h_.1))) (Kd.S_base ho0) hb); have n1_ := Aside0.mk (Kd.S_elder' (by (with_reducible repeat (first | apply Kd.S_alloc | apply Kd.S_drewN | apply Kd.S_drew)); exact (Kd.S_mono (Kd.S_far (p := ⟨gb246, 1, none⟩) (Kd.S_far (p := ⟨gb246, 0, none⟩) (Kd.S_types HO232.out BK246.out (by decide)) (fun _ hk => hk.2) (.slice Ao50 t240.length co50)) (fun _ hk => hk.2) (.slice Ao54 t243.length co54)) (fun _ h_ => h_.1))) (Kd.S_base ho1) hb); have n2_ := Aside0.mk (Kd.S_elder' (by (with_reducible repeat (first | apply Kd.S_alloc | apply Kd.S_drewN | apply Kd.S_drew)); exact (Kd.S_mono (Kd.S_far (p := ⟨gb246, 1, none⟩) (Kd.S_far (p := ⟨gb246, 0, none⟩) (Kd.S_types HO235.out BK246.out (by decide)) (fun _ hk => hk.2) (.slice Ao50 t240.length co50)) (fun _ hk => hk.2) (.slice Ao54 t243.length co54)) (fun _ h_ => h_.1))) (Kd.S_base ho0) hb); have n3_ := Aside0.mk (Kd.S_elder' (by (with_reducible repeat (first | apply Kd.S_alloc | apply Kd.S_drewN | apply Kd.S_drew)); exact (Kd.S_mono (Kd.S_far (p := ⟨gb246, 1, none⟩) (Kd.S_far (p := ⟨gb246, 0, none⟩) (Kd.S_types HO238.out BK246.out (by decide)) (fun _ hk => hk.2) (.slice Ao50 t240.length co50)) (fun _ hk => hk.2) (.slice Ao54 t243.length co54)) (fun _ h_ => h_.1))) (Kd.S_base ho1) hb); have n4_ := Aside0.mk (Kd.S_elder' (by (with_reducible repeat (first | apply Kd.S_alloc | apply Kd.S_drewN | apply Kd.S_drew)); exact (Kd.S_mono (Kd.S_far (p := ⟨gb246, 1, none⟩) (Kd.S_far (p := ⟨gb246, 0, none⟩) (Kd.S_types HO242.out BK246.out (by decide)) (fun _ hk => hk.2) (.slice Ao50 t240.length co50)) (fun _ hk => hk.2) (.slice Ao54 t243.length co54)) (fun _ h_ => h_.1))) (Kd.S_base ho0) hb); have n5_ := Aside0.mk (Kd.S_elder' (by (with_reducible repeat (first | apply Kd.S_alloc | apply Kd.S_drewN | apply Kd.S_drew)); exact (Kd.S_mono (Kd.S_far (p := ⟨gb246, 1, none⟩) (Kd.S_far (p := ⟨gb246, 0, none⟩) (Kd.S_types HO245.out BK246.out (by decide)) (fun _ hk => hk.2) (.slice Ao50 t240.length co50)) (fun _ hk => hk.2) (.slice Ao54 t243.length co54)) (fun _ h_ => h_.1))) (Kd.S_base ho1) hb); have n6_ := Aside0.mk (Kd.S_lower (Kd.S_new' (Kd.S_new' (Kd.S_new' ho0 (Kd.S_lt (by (with_reducible repeat (first | apply Kd.S_alloc | apply Kd.S_drewN | apply Kd.S_drew)); exact (Kd.S_mono (Kd.S_far (p := ⟨gb246, 1, none⟩) (Kd.S_far (p := ⟨gb246, 0, none⟩) (Kd.S_types HO229.out BK246.out (by decide)) (fun _ hk => hk.2) (.slice Ao50 t240.length co50)) (fun _ hk => hk.2) (.slice Ao54 t243.length co54)) (fun _ h_ => h_.1))))) (Kd.S_lt (by (with_reducible repeat (first | apply Kd.S_alloc | apply Kd.S_drewN | apply Kd.S_drew)); exact (Kd.S_mono (Kd.S_far (p := ⟨gb246, 1, none⟩) (Kd.S_far (p := ⟨gb246, 0, none⟩) (Kd.S_types HO235.out BK246.out (by decide)) (fun _ hk => hk.2) (.slice Ao50 t240.length co50)) (fun _ hk => hk.2) (.slice Ao54 t243.length co54)) (fun _ h_ => h_.1))))) (Kd.S_lt (by (with_reducible repeat (first | apply Kd.S_alloc | apply Kd.S_drewN | apply Kd.S_drew)); exact (Kd.S_mono (Kd.S_far (p := ⟨gb246, 1, none⟩) (Kd.S_far (p := ⟨gb246, 0, none⟩) (Kd.S_types HO242.out BK246.out (by decide)) (fun _ hk => hk.2) (.slice Ao50 t240.length co50)) (fun _ hk => hk.2) (.slice Ao54 t243.length co54)) (fun _ h_ => h_.1))))) (below_size (carH HB.out))); have n7_ := Aside0.mk (Kd.S_lower (Kd.S_new' (Kd.S_new' (Kd.S_new' ho1 (Kd.S_lt (by (with_reducible repeat (first | apply Kd.S_alloc | apply Kd.S_drewN | apply Kd.S_drew)); exact (Kd.S_mono (Kd.S_far (p := ⟨gb246, 1, none⟩) (Kd.S_far (p := ⟨gb246, 0, none⟩) (Kd.S_types HO232.out BK246.out (by decide)) (fun _ hk => hk.2) (.slice Ao50 t240.length co50)) (fun _ hk => hk.2) (.slice Ao54 t243.length co54)) (fun _ h_ => h_.1))))) (Kd.S_lt (by (with_reducible repeat (first | apply Kd.S_alloc | apply Kd.S_drewN | apply Kd.S_drew)); exact (Kd.S_mono (Kd.S_far (p := ⟨gb246, 1, none⟩) (Kd.S_far (p := ⟨gb246, 0, none⟩) (Kd.S_types HO238.out BK246.out (by decide)) (fun _ hk => hk.2) (.slice Ao50 t240.length co50)) (fun _ hk => hk.2) (.slice Ao54 t243.length co54)) (fun _ h_ => h_.1))))) (Kd.S_lt (by (with_reducible repeat (first | apply Kd.S_alloc | apply Kd.S_drewN | apply Kd.S_drew)); exact (Kd.S_mono (Kd.S_far (p := ⟨gb246, 1, none⟩) (Kd.S_far (p := ⟨gb246, 0, none⟩) (Kd.S_types HO245.out BK246.out (by decide)) (fun _ hk => hk.2) (.slice Ao50 t240.length co50)) (fun _ hk => hk.2) (.slice Ao54 t243.length co54)) (fun _ h_ => h_.1))))) (below_size (carH HB.out))); have n8_ := Aside0.mk (blk_below (g := gb223) (o := .cells #[.slice A0_0 l0_0.length c0_0, .slice A0_1 l0_1.length c0_1] 27 (0, 0)) (by (with_reducible repeat (first | refine blk_drewN ?_ _ | refine blk_drew ?_ | refine blk_alloc ?_ _)); refine blk_far ?_ NB223_246.out _; (with_reducible repeat (first | refine blk_drewN ?_ _ | refine blk_drew ?_ | refine blk_alloc ?_ _)); refine blk_far ?_ NB223_246.out _; (with_reducible repeat (first | refine blk_drewN ?_ _ | refine blk_drew ?_ | refine blk_alloc ?_ _)); exact BK223.out) hb); have n9_ := Aside0.mk (blk_below (g := gb224) (o := .cells #[.slice A1_0 l1_0.length c1_0, .slice A1_1 l1_1.length c1_1] 27 (0, 0)) (by (with_reducible repeat (first | refine blk_drewN ?_ _ | refine blk_drew ?_ | refine blk_alloc ?_ _)); refine blk_far ?_ NB224_246.out _; (with_reducible repeat (first | refine blk_drewN ?_ _ | refine blk_drew ?_ | refine blk_alloc ?_ _)); refine blk_far ?_ NB224_246.out _; (with_reducible repeat (first | refine blk_drewN ?_ _ | refine blk_drew ?_ | refine blk_alloc ?_ _)); exact BK224.out) hb); have n10_ := Aside0.mk (blk_below (g := gb246) (o := .cells #[.slice Ao50 t240.length co50, .slice Ao54 t243.length co54] 33 (0, 0)) (by (with_reducible repeat (first | refine blk_drewN ?_ _ | refine blk_drew ?_ | refine blk_alloc ?_ _)); refine blk_put (cs := #[.slice Ao50 t240.length co50, .slice none 0 0]) ?_ 1 _ rfl; (with_reducible repeat (first | refine blk_drewN ?_ _ | refine blk_drew ?_ | refine blk_alloc ?_ _)); refine blk_put (cs := #[.slice none 0 0, .slice none 0 0]) ?_ 0 _ rfl; (with_reducible repeat (first | refine blk_drewN ?_ _ | refine blk_drew ?_ | refine blk_alloc ?_ _)); exact BK246.out) hb); have n11_ := Aside0.mk (below_step (carH HB.out) hb); clear HO229; clear HO232; clear HO235; clear HO238; clear HO242; clear HO245; clear BK223; clear BK224; clear BK246; clear HB; have HO229 := n0_; have HO232 := n1_; have HO235 := n2_; have HO238 := n3_; have HO242 := n4_; have HO245 := n5_; have HO249 := n6_; have HO252 := n7_; have BK223 := n8_; have BK224 := n9_; have BK246 := n10_; have HB := n11_; clear n0_ n1_ n2_ n3_ n4_ n5_ n6_ n7_ n8_ n9_ n10_ n11_; (try clear hb); (try clear hb2); (try clear hk); (try clear hi); (try clear ho0); (try clear ho1)) | ((with_reducible refine gate_dst (N := 8) rfl ?_); refine box_event ?hg (N := 8) ?hd (cs := #[.slice none 0 0, .slice none 0 0]) (t := 33) ?hr ?_; (case hd => rfl); (case hg => rfl); (case hr => first | (go_simp; done) | (go_simp; rfl)); intro gb253 hg w57 hbox hb; have n0_ := Aside0.mk (Kd.S_below (carS HO229.out) hb); have n1_ := Aside0.mk (Kd.S_below (carS HO232.out) hb); have n2_ := Aside0.mk (Kd.S_below (carS HO235.out) hb); have n3_ := Aside0.mk (Kd.S_below (carS HO238.out) hb); have n4_ := Aside0.mk (Kd.S_below (carS HO242.out) hb); have n5_ := Aside0.mk (Kd.S_below (carS HO245.out) hb); have n6_ := Aside0.mk (Kd.S_below (carS HO249.out) hb); have n7_ := Aside0.mk (Kd.S_below (carS HO252.out) hb); have n8_ := Aside0.mk (blk_below (g := gb223) (o := .cells #[.slice A0_0 l0_0.length c0_0, .slice A0_1 l0_1.length c0_1] 27 (0, 0)) (carB BK223.out) hb); have n9_ := Aside0.mk (blk_below (g := gb224) (o := .cells #[.slice A1_0 l1_0.length c1_0, .slice A1_1 l1_1.length c1_1] 27 (0, 0)) (carB BK224.out) hb); have n10_ := Aside0.mk (blk_below (g := gb246) (o := .cells #[.slice Ao50 t240.length co50, .slice Ao54 t243.length co54] 33 (0, 0)) (carB BK246.out) hb); have n11_ := Aside0.mk (below_step (carH HB.out) hb); have n12_ := Aside0.mk (hbox); have n13_ := Aside0.mk ((by rw [hg]; exact (below_size (carH HB.out)) : w.heap.size ≤ gb253)); have n14_ := Aside0.mk ((by rw [hg]; exact (below_size (carH HB.out)) : w.heap.size ≤ gb253)); have n15_ := Aside0.mk ((by rw [hg]; exact Nat.ne_of_lt (blk_lt (g := gb223) (o := .cells #[.slice A0_0 l0_0.length c0_0, .slice A0_1 l0_1.length c0_1] 27 (0, 0)) (carB BK223.out)) : gb223 ≠ gb253)); have n16_ := Aside0.mk ((by rw [hg]; exact Nat.ne_of_gt (blk_lt (g := gb223) (o := .cells #[.slice A0_0 l0_0.length c0_0, .slice A0_1 l0_1.length c0_1] 27 (0, 0)) (carB BK223.out)) : gb253 ≠ gb223)); have n17_ := Aside0.mk ((by rw [hg]; exact Nat.ne_of_lt (blk_lt (g := gb224) (o := .cells #[.slice A1_0 l1_0.length c1_0, .slice A1_1 l1_1.length c1_1] 27 (0, 0)) (carB BK224.out)) : gb224 ≠ gb253)); have n18_ := Aside0.mk ((by rw [hg]; exact Nat.ne_of_gt (blk_lt (g := gb224) (o := .cells #[.slice A1_0 l1_0.length c1_0, .slice A1_1 l1_1.length c1_1] 27 (0, 0)) (carB BK224.out)) : gb253 ≠ gb224)); have n19_ := Aside0.mk ((by rw [hg]; exact Nat.ne_of_lt (blk_lt (g := gb246) (o := .cells #[.slice Ao50 t240.length co50, .slice Ao54 t243.length co54] 33 (0, 0)) (carB BK246.out)) : gb246 ≠ gb253)); have n20_ := Aside0.mk ((by rw [hg]; exact Nat.ne_of_gt (blk_lt (g := gb246) (o := .cells #[.slice Ao50 t240.length co50, .slice Ao54 t243.length co54] 33 (0, 0)) (carB BK246.out)) : gb253 ≠ gb246)); clear HO229; clear HO232; clear HO235; clear HO238; clear HO242; clear HO245; clear HO249; clear HO252; clear BK223; clear BK224; clear BK246; clear HB; have HO229 := n0_; have HO232 := n1_; have HO235 := n2_; have HO238 := n3_; have HO242 := n4_; have HO245 := n5_; have HO249 := n6_; have HO252 := n7_; have BK223 := n8_; have BK224 := n9_; have BK246 := n10_; have HB := n11_; have BK253 := n12_; have GW253 := n13_; have GE253 := n14_; have NB223_253 := n15_; have NB253_223 := n16_; have NB224_253 := n17_; have NB253_224 := n18_; have NB246_253 := n19_; have NB253_246 := n20_; clear n0_ n1_ n2_ n3_ n4_ n5_ n6_ n7_ n8_ n9_ n10_ n11_ n12_ n13_ n14_ n15_ n16_ n17_ n18_ n19_ n20_; clear hb hbox hg; obtain ⟨Ao58, co58, eo58⟩ := Kd.S_slice HO249.out; subst eo58; have hnb59 := NB253_223.out; have hnc59 := NB223_253.out; have hnb60 := NB253_224.out; have hnc60 := NB224_253.out; have hnb61 := NB253_246.out; have hnc61 := NB246_253.out; have hcz62_0 : w57.cell? ⟨gb253, 0, none⟩ = some (.slice none 0 0) := (blk_cell BK253.out 0).trans rfl; have hcz62_1 : w57.cell? ⟨gb253, 1, none⟩ = some (.slice none 0 0) := (blk_cell BK253.out 1).trans rfl; have hfz62_0 := blk_frozen BK253.out 0; have hfz62_1 := blk_frozen BK253.out 1; obtain ⟨Ao63, co63, eo63⟩ := Kd.S_slice HO252.out; subst eo63; have hcz64_0 : w57.cell? ⟨gb246, 0, none⟩ = some (.slice Ao50 t240.length co50) := (blk_cell BK246.out 0).trans rfl; have hcz64_1 : w57.cell? ⟨gb246, 1, none⟩ = some (.slice Ao54 t243.length co54) := (blk_cell BK246.out 1).trans rfl; have hfz64_0 := blk_frozen BK246.out 0; have hfz64_1 := blk_frozen BK246.out 1) | ((with_reducible refine gate_callee (f := 14) rfl ?_); refine goesL_ (some 31) rfl rfl Try.func14 (by kernel_rfl) rfl #[.agg #[.slice Ao50 t240.length co50, .slice Ao54 t243.length co54], .agg #[.slice Ao58 t247.length co58, .slice Ao63 t250.length co63]] rfl (by (try simp only [List.map_toArray, List.map_cons, List.map_nil]); first | done | rfl | (simp only [List.length_drop, List.length_take]; rfl)) ?_; (with_reducible refine (impl_SameProg.calls k _ _ t240 _ _ t243 _ _ t247 _ _ t250 t254 _ ?side1 ?side2 ?side3 ?side4 ?side5 ?side6 ?side7 ?side8 A24.out).mono ?_); (case side1 => refine (Kd.S_reads' (e := 43) (base := w.heap.size) (ok := fun k_ => (((True ∧ some k_ ≠ (.slice Ao42 t227.length co42 : Value).ownBlock) ∧ some k_ ≠ (.slice Ao44 t233.length co44 : Value).ownBlock) ∧ some k_ ≠ (.slice Ao58 t247.length co58 : Value).ownBlock)) (n := t240.length) (c := co50) ?_).2.2; exact (by (with_reducible repeat (first | apply Kd.S_alloc | apply Kd.S_drewN | apply Kd.S_drew)); exact (Kd.S_mono (Kd.S_far (p := ⟨gb253, 1, none⟩) (Kd.S_far (p := ⟨gb253, 0, none⟩) (Kd.S_types HO242.out BK253.out (by decide)) (fun _ hk => hk.2) (.slice Ao58 t247.length co58)) (fun _ hk => hk.2) (.slice Ao63 t250.length co63)) (fun _ h_ => h_.1)))); (case side2 => exact (Kd.S_reads' HO242.out).2.1); (case side3 => refine (Kd.S_reads' (e := 51) (base := w.heap.size) (ok := fun k_ => (((True ∧ some k_ ≠ (.slice Ao43 t230.length co43 : Value).ownBlock) ∧ some k_ ≠ (.slice Ao45 t236.length co45 : Value).ownBlock) ∧ some k_ ≠ (.slice Ao63 t250.length co63 : Value).ownBlock)) (n := t243.length) (c := co54) ?_).2.2; exact (by (with_reducible repeat (first | apply Kd.S_alloc | apply Kd.S_drewN | apply Kd.S_drew)); exact (Kd.S_mono (Kd.S_far (p := ⟨gb253, 1, none⟩) (Kd.S_far (p := ⟨gb253, 0, none⟩) (Kd.S_types HO245.out BK253.out (by decide)) (fun _ hk => hk.2) (.slice Ao58 t247.length co58)) (fun _ hk => hk.2) (.slice Ao63 t250.length co63)) (fun _ h_ => h_.1)))); (case side4 => exact (Kd.S_reads' HO245.out).2.1); (case side5 => refine (Kd.S_reads' (e := 43) (base := w.heap.size) (ok := fun k_ => (((True ∧ some k_ ≠ (.slice Ao42 t227.length co42 : Value).ownBlock) ∧ some k_ ≠ (.slice Ao44 t233.length co44 : Value).ownBlock) ∧ some k_ ≠ (.slice Ao50 t240.length co50 : Value).ownBlock)) (n := t247.length) (c := co58) ?_).2.2; exact (by (with_reducible repeat (first | apply Kd.S_alloc | apply Kd.S_drewN | apply Kd.S_drew)); exact (Kd.S_mono (Kd.S_far (p := ⟨gb253, 1, none⟩) (Kd.S_far (p := ⟨gb253, 0, none⟩) (Kd.S_types HO249.out BK253.out (by decide)) (fun _ hk => hk.2) (.slice Ao58 t247.length co58)) (fun _ hk => hk.2) (.slice Ao63 t250.length co63)) (fun _ h_ => h_.1)))); (case side6 => exact (Kd.S_reads' HO249.out).2.1); (case side7 => refine (Kd.S_reads' (e := 51) (base := w.heap.size) (ok := fun k_ => (((True ∧ some k_ ≠ (.slice Ao43 t230.length co43 : Value).ownBlock) ∧ some k_ ≠ (.slice Ao45 t236.length co45 : Value).ownBlock) ∧ some k_ ≠ (.slice Ao54 t243.length co54 : Value).ownBlock)) (n := t250.length) (c := co63) ?_).2.2; exact (by (with_reducible repeat (first | apply Kd.S_alloc | apply Kd.S_drewN | apply Kd.S_drew)); exact (Kd.S_mono (Kd.S_far (p := ⟨gb253, 1, none⟩) (Kd.S_far (p := ⟨gb253, 0, none⟩) (Kd.S_types HO252.out BK253.out (by decide)) (fun _ hk => hk.2) (.slice Ao58 t247.length co58)) (fun _ hk => hk.2) (.slice Ao63 t250.length co63)) (fun _ h_ => h_.1)))); (case side8 => exact (Kd.S_reads' HO252.out).2.1); rintro e w65 ⟨rfl, hb⟩; refine ⟨_, rfl, ?_⟩; have n0_ := Aside0.mk (Kd.S_below (by (with_reducible repeat (first | apply Kd.S_alloc | apply Kd.S_drewN | apply Kd.S_drew)); exact (Kd.S_mono (Kd.S_far (p := ⟨gb253, 1, none⟩) (Kd.S_far (p := ⟨gb253, 0, none⟩) (Kd.S_types HO229.out BK253.out (by decide)) (fun _ hk => hk.2) (.slice Ao58 t247.length co58)) (fun _ hk => hk.2) (.slice Ao63 t250.length co63)) (fun _ h_ => h_.1))) hb); have n1_ := Aside0.mk (Kd.S_below (by (with_reducible repeat (first | apply Kd.S_alloc | apply Kd.S_drewN | apply Kd.S_drew)); exact (Kd.S_mono (Kd.S_far (p := ⟨gb253, 1, none⟩) (Kd.S_far (p := ⟨gb253, 0, none⟩) (Kd.S_types HO232.out BK253.out (by decide)) (fun _ hk => hk.2) (.slice Ao58 t247.length co58)) (fun _ hk => hk.2) (.slice Ao63 t250.length co63)) (fun _ h_ => h_.1))) hb); have n2_ := Aside0.mk (Kd.S_below (by (with_reducible repeat (first | apply Kd.S_alloc | apply Kd.S_drewN | apply Kd.S_drew)); exact (Kd.S_mono (Kd.S_far (p := ⟨gb253, 1, none⟩) (Kd.S_far (p := ⟨gb253, 0, none⟩) (Kd.S_types HO235.out BK253.out (by decide)) (fun _ hk => hk.2) (.slice Ao58 t247.length co58)) (fun _ hk => hk.2) (.slice Ao63 t250.length co63)) (fun _ h_ => h_.1))) hb); have n3_ := Aside0.mk (Kd.S_below (by (with_reducible repeat (first | apply Kd.S_alloc | apply Kd.S_drewN | apply Kd.S_drew)); exact (Kd.S_mono (Kd.S_far (p := ⟨gb253, 1, none⟩) (Kd.S_far (p := ⟨gb253, 0, none⟩) (Kd.S_types HO238.out BK253.out (by decide)) (fun _ hk => hk.2) (.slice Ao58 t247.length co58)) (fun _ hk => hk.2) (.slice Ao63 t250.length co63)) (fun _ h_ => h_.1))) hb); have n4_ := Aside0.mk (Kd.S_below (by (with_reducible repeat (first | apply Kd.S_alloc | apply Kd.S_drewN | apply Kd.S_drew)); exact (Kd.S_mono (Kd.S_far (p := ⟨gb253, 1, none⟩) (Kd.S_far (p := ⟨gb253, 0, none⟩) (Kd.S_types HO242.out BK253.out (by decide)) (fun _ hk => hk.2) (.slice Ao58 t247.length co58)) (fun _ hk => hk.2) (.slice Ao63 t250.length co63)) (fun _ h_ => h_.1))) hb); have n5_ := Aside0.mk (Kd.S_below (by (with_reducible repeat (first | apply Kd.S_alloc | apply Kd.S_drewN | apply Kd.S_drew)); exact (Kd.S_mono (Kd.S_far (p := ⟨gb253, 1, none⟩) (Kd.S_far (p := ⟨gb253, 0, none⟩) (Kd.S_types HO245.out BK253.out (by decide)) (fun _ hk => hk.2) (.slice Ao58 t247.length co58)) (fun _ hk => hk.2) (.slice Ao63 t250.length co63)) (fun _ h_ => h_.1))) hb); have n6_ := Aside0.mk (Kd.S_below (by (with_reducible repeat (first | apply Kd.S_alloc | apply Kd.S_drewN | apply Kd.S_drew)); exact (Kd.S_mono (Kd.S_far (p := ⟨gb253, 1, none⟩) (Kd.S_far (p := ⟨gb253, 0, none⟩) (Kd.S_types HO249.out BK253.out (by decide)) (fun _ hk => hk.2) (.slice Ao58 t247.length co58)) (fun _ hk => hk.2) (.slice Ao63 t250.length co63)) (fun _ h_ => h_.1))) hb); have n7_ := Aside0.mk (Kd.S_below (by (with_reducible repeat (first | apply Kd.S_alloc | apply Kd.S_drewN | apply Kd.S_drew)); exact (Kd.S_mono (Kd.S_far (p := ⟨gb253, 1, none⟩) (Kd.S_far (p := ⟨gb253, 0, none⟩) (Kd.S_types HO252.out BK253.out (by decide)) (fun _ hk => hk.2) (.slice Ao58 t247.length co58)) (fun _ hk => hk.2) (.slice Ao63 t250.length co63)) (fun _ h_ => h_.1))) hb); have n8_ := Aside0.mk (blk_below (g := gb223) (o := .cells #[.slice A0_0 l0_0.length c0_0, .slice A0_1 l0_1.length c0_1] 27 (0, 0)) (by (with_reducible repeat (first | refine blk_drewN ?_ _ | refine blk_drew ?_ | refine blk_alloc ?_ _)); refine blk_far ?_ NB223_253.out _; (with_reducible repeat (first | refine blk_drewN ?_ _ | refine blk_drew ?_ | refine blk_alloc ?_ _)); refine blk_far ?_ NB223_253.out _; (with_reducible repeat (first | refine blk_drewN ?_ _ | refine blk_drew ?_ | refine blk_alloc ?_ _)); exact BK223.out) hb); have n9_ := Aside0.mk (blk_below (g := gb224) (o := .cells #[.slice A1_0 l1_0.length c1_0, .slice A1_1 l1_1.length c1_1] 27 (0, 0)) (by (with_reducible repeat (first | refine blk_drewN ?_ _ | refine blk_drew ?_ | refine blk_alloc ?_ _)); refine blk_far ?_ NB224_253.out _; (with_reducible repeat (first | refine blk_drewN ?_ _ | refine blk_drew ?_ | refine blk_alloc ?_ _)); refine blk_far ?_ NB224_253.out _; (with_reducible repeat (first | refine blk_drewN ?_ _ | refine blk_drew ?_ | refine blk_alloc ?_ _)); exact BK224.out) hb); have n10_ := Aside0.mk (blk_below (g := gb246) (o := .cells #[.slice Ao50 t240.length co50, .slice Ao54 t243.length co54] 33 (0, 0)) (by (with_reducible repeat (first | refine blk_drewN ?_ _ | refine blk_drew ?_ | refine blk_alloc ?_ _)); refine blk_far ?_ NB246_253.out _; (with_reducible repeat (first | refine blk_drewN ?_ _ | refine blk_drew ?_ | refine blk_alloc ?_ _)); refine blk_far ?_ NB246_253.out _; (with_reducible repeat (first | refine blk_drewN ?_ _ | refine blk_drew ?_ | refine blk_alloc ?_ _)); exact BK246.out) hb); have n11_ := Aside0.mk (blk_below (g := gb253) (o := .cells #[.slice Ao58 t247.length co58, .slice Ao63 t250.length co63] 33 (0, 0)) (by (with_reducible repeat (first | refine blk_drewN ?_ _ | refine blk_drew ?_ | refine blk_alloc ?_ _)); refine blk_put (cs := #[.slice Ao58 t247.length co58, .slice none 0 0]) ?_ 1 _ rfl; (with_reducible repeat (first | refine blk_drewN ?_ _ | refine blk_drew ?_ | refine blk_alloc ?_ _)); refine blk_put (cs := #[.slice none 0 0, .slice none 0 0]) ?_ 0 _ rfl; (with_reducible repeat (first | refine blk_drewN ?_ _ | refine blk_drew ?_ | refine blk_alloc ?_ _)); exact BK253.out) hb); have n12_ := Aside0.mk (below_step (carH HB.out) hb); clear HO229; clear HO232; clear HO235; clear HO238; clear HO242; clear HO245; clear HO249; clear HO252; clear BK223; clear BK224; clear BK246; clear BK253; clear HB; have HO229 := n0_; have HO232 := n1_; have HO235 := n2_; have HO238 := n3_; have HO242 := n4_; have HO245 := n5_; have HO249 := n6_; have HO252 := n7_; have BK223 := n8_; have BK224 := n9_; have BK246 := n10_; have BK253 := n11_; have HB := n12_; clear n0_ n1_ n2_ n3_ n4_ n5_ n6_ n7_ n8_ n9_ n10_ n11_ n12_; (try clear hb); (try clear hb2); (try clear hk); (try clear hi)))
            have n0_ := Aside0.mk (Kd.S_drew HO229.out)
            have n1_ := Aside0.mk (Kd.S_drew HO232.out)
            have n2_ := Aside0.mk (Kd.S_drew HO235.out)
            have n3_ := Aside0.mk (Kd.S_drew HO238.out)
            have n4_ := Aside0.mk (Kd.S_drew HO242.out)
            have n5_ := Aside0.mk (Kd.S_drew HO245.out)
            have n6_ := Aside0.mk (Kd.S_drew HO249.out)
            have n7_ := Aside0.mk (Kd.S_drew HO252.out)
            have n8_ := Aside0.mk (blk_drew BK223.out)
            have n9_ := Aside0.mk (blk_drew BK224.out)
            have n10_ := Aside0.mk (blk_drew BK246.out)
            have n11_ := Aside0.mk (blk_drew BK253.out)
            have n12_ := Aside0.mk (below_drew1 HB.out)
            clear HO229
            clear HO232
            clear HO235
            clear HO238
            clear HO242
            clear HO245
            clear HO249
            clear HO252
            clear BK223
            clear BK224
            clear BK246
            clear BK253
            clear HB
            have HO229 := n0_
            have HO232 := n1_
            have HO235 := n2_
            have HO238 := n3_
            have HO242 := n4_
            have HO245 := n5_
            have HO249 := n6_
            have HO252 := n7_
            have BK223 := n8_
            have BK224 := n9_
            have BK246 := n10_
            have BK253 := n11_
            have HB := n12_
            clear n0_ n1_ n2_ n3_ n4_ n5_ n6_ n7_ n8_ n9_ n10_ n11_ n12_
            refine start_ (n := 5) (S := fun w' => w'.cell? ⟨gb246, 0, none⟩ = some (.slice Ao50 t240.length co50) ∧ w'.cell? ⟨gb246, 1, none⟩ = some (.slice Ao54 t243.length co54) ∧ w'.cell? ⟨gb223, 0, none⟩ = some (.slice A0_0 l0_0.length c0_0) ∧ w'.cell? ⟨gb223, 1, none⟩ = some (.slice A0_1 l0_1.length c0_1)) (ds := []) #[false, false, false, false, false] (by kernel_rfl) rfl rfl ⟨(blk_cell BK246.out 0).trans rfl, (blk_cell BK246.out 1).trans rfl, (blk_cell BK223.out 0).trans rfl, (blk_cell BK223.out 1).trans rfl⟩ (fun hHeld => ?_)
            generalize w65.drew = w66 at HO229 HO232 HO235 HO238 HO242 HO245 HO249 HO252 BK223 BK224 BK246 BK253 HB hHeld ⊢
            refine take_ (i := 0) (N := some 35) (v := ?_) (a' := ?_) #[true, false, false, false, false] rfl rfl (by kernel_rfl) (fun _ _ _ h => h) (Or.inl ⟨by rfl, ?_⟩) hHeld ?_ ?_
            rotate_left
            · rintro w' ⟨s0, s1, s2, s3⟩
              go_simp
              with_reducible rfl
            rotate_left
            · simp only [Act.put, List.setIfInBounds_toArray, List.set_cons_zero, List.set_cons_succ, i64_w, i32_w]
              rfl
            refine take_ (i := 1) (N := some 36) (v := ?_) (a' := ?_) #[true, true, false, false, false] rfl rfl (by kernel_rfl) (fun _ _ _ h => h) (Or.inl ⟨by rfl, ?_⟩) hHeld ?_ ?_
            rotate_left
            · rintro w' ⟨s0, s1, s2, s3⟩
              go_simp
              with_reducible rfl
            rotate_left
            · simp only [Act.put, List.setIfInBounds_toArray, List.set_cons_zero, List.set_cons_succ, i64_w, i32_w]
              rfl
            refine one_ (i := 2) (N := some 37) #[true, true, true, false, false] rfl rfl (by kernel_rfl) (by decide) (fun K hK => ?_)
            refine goes_ Try.func10 (by kernel_rfl) rfl #[.agg #[.slice A0_0 l0_0.length c0_0, .slice A0_1 l0_1.length c0_1]] (by rfl) rfl rfl (by (try simp only [List.map_toArray, List.map_cons, List.map_nil]); first | done | rfl | (simp only [List.length_drop, List.length_take]; rfl)) ?_
            with_reducible refine (laws_toProg.calls k _ _ l0_0 _ _ l0_1 t255 t258 _ ?side1 ?side2 ?side3 ?side4 A26.out).mono ?_
            (case side1 => repeat (first | exact (Kd.C_below HR0_0.out HB.out) | (with_reducible refine Kd.C_alloc ?_ _) | (with_reducible refine Kd.C_drewN ?_ _) | (with_reducible refine Kd.C_drew ?_)))
            (case side2 => exact HC0_0.out)
            (case side3 => repeat (first | exact (Kd.C_below HR0_1.out HB.out) | (with_reducible refine Kd.C_alloc ?_ _) | (with_reducible refine Kd.C_drewN ?_ _) | (with_reducible refine Kd.C_drew ?_)))
            (case side4 => exact HC0_1.out)
            rintro e w67 ⟨v256, v259, rfl, ho0, ho1, hb⟩
            refine ⟨_, rfl, ?_⟩
            have n0_ := Aside0.mk (Kd.S_elder' (carS HO229.out) (Kd.S_base ho0) hb)
            have n1_ := Aside0.mk (Kd.S_elder' (carS HO232.out) (Kd.S_base ho1) hb)
            have n2_ := Aside0.mk (Kd.S_elder' (carS HO235.out) (Kd.S_base ho0) hb)
            have n3_ := Aside0.mk (Kd.S_elder' (carS HO238.out) (Kd.S_base ho1) hb)
            have n4_ := Aside0.mk (Kd.S_elder' (carS HO242.out) (Kd.S_base ho0) hb)
            have n5_ := Aside0.mk (Kd.S_elder' (carS HO245.out) (Kd.S_base ho1) hb)
            have n6_ := Aside0.mk (Kd.S_elder' (carS HO249.out) (Kd.S_base ho0) hb)
            have n7_ := Aside0.mk (Kd.S_elder' (carS HO252.out) (Kd.S_base ho1) hb)
            have n8_ := Aside0.mk (Kd.S_lower (Kd.S_new' (Kd.S_new' (Kd.S_new' (Kd.S_new' ho0 (Kd.S_lt (carS HO229.out))) (Kd.S_lt (carS HO235.out))) (Kd.S_lt (carS HO242.out))) (Kd.S_lt (carS HO249.out))) (below_size (carH HB.out)))
            have n9_ := Aside0.mk (Kd.S_lower (Kd.S_new' (Kd.S_new' (Kd.S_new' (Kd.S_new' ho1 (Kd.S_lt (carS HO232.out))) (Kd.S_lt (carS HO238.out))) (Kd.S_lt (carS HO245.out))) (Kd.S_lt (carS HO252.out))) (below_size (carH HB.out)))
            have n10_ := Aside0.mk (blk_below (g := gb223) (o := .cells #[.slice A0_0 l0_0.length c0_0, .slice A0_1 l0_1.length c0_1] 27 (0, 0)) (carB BK223.out) hb)
            have n11_ := Aside0.mk (blk_below (g := gb224) (o := .cells #[.slice A1_0 l1_0.length c1_0, .slice A1_1 l1_1.length c1_1] 27 (0, 0)) (carB BK224.out) hb)
            have n12_ := Aside0.mk (blk_below (g := gb246) (o := .cells #[.slice Ao50 t240.length co50, .slice Ao54 t243.length co54] 33 (0, 0)) (carB BK246.out) hb)
            have n13_ := Aside0.mk (blk_below (g := gb253) (o := .cells #[.slice Ao58 t247.length co58, .slice Ao63 t250.length co63] 33 (0, 0)) (carB BK253.out) hb)
            have n14_ := Aside0.mk (below_step (carH HB.out) hb)
            clear HO229
            clear HO232
            clear HO235
            clear HO238
            clear HO242
            clear HO245
            clear HO249
            clear HO252
            clear BK223
            clear BK224
            clear BK246
            clear BK253
            clear HB
            have HO229 := n0_
            have HO232 := n1_
            have HO235 := n2_
            have HO238 := n3_
            have HO242 := n4_
            have HO245 := n5_
            have HO249 := n6_
            have HO252 := n7_
            have HO257 := n8_
            have HO260 := n9_
            have BK223 := n10_
            have BK224 := n11_
            have BK246 := n12_
            have BK253 := n13_
            have HB := n14_
            clear n0_ n1_ n2_ n3_ n4_ n5_ n6_ n7_ n8_ n9_ n10_ n11_ n12_ n13_ n14_
            (try clear hb)
            (try clear hb2)
            (try clear hk)
            (try clear hi)
            (try clear ho0)
            (try clear ho1)
            obtain ⟨Ao68, co68, eo68⟩ := Kd.S_slice HO257.out
            (first | subst eo68 | (injection eo68 with f1_ f2_ f3_; have f4_ := f1_.symm; have f5_ := f3_.symm; clear f1_ f2_ f3_; subst f4_; subst f5_))
            obtain ⟨Ao69, co69, eo69⟩ := Kd.S_slice HO260.out
            (first | subst eo69 | (injection eo69 with f1_ f2_ f3_; have f4_ := f1_.symm; have f5_ := f3_.symm; clear f1_ f2_ f3_; subst f4_; subst f5_))
            refine hK.out _ _ ⟨(blk_cell BK246.out 0).trans rfl, (blk_cell BK246.out 1).trans rfl, (blk_cell BK223.out 0).trans rfl, (blk_cell BK223.out 1).trans rfl⟩ (fun hHeld => ?_)
            clear hK K
            refine norm_ (a' := ?_) ?_ ?_
            rotate_left
            · show Act.put _ (some 37) _ = _
              simp only [Act.put, List.setIfInBounds_toArray, List.set_cons_zero, List.set_cons_succ, i64_w, i32_w]
              rfl
            refine one_ (i := 3) (N := some 38) #[true, true, true, true, false] rfl rfl (by kernel_rfl) (by decide) (fun K hK => ?_)
            refine goes_ Try.func12 (by kernel_rfl) rfl #[.agg #[.slice Ao50 t240.length co50, .slice Ao54 t243.length co54], .agg #[.slice Ao68 t255.length co68, .slice Ao69 t258.length co69]] (by rfl) rfl rfl (by (try simp only [List.map_toArray, List.map_cons, List.map_nil]); first | done | rfl | (simp only [List.length_drop, List.length_take]; rfl)) ?_
            with_reducible refine (laws_eqProg.calls k _ _ t240 _ _ t243 _ _ t255 _ _ t258 true _ ?side1 ?side2 ?side3 ?side4 ?side5 ?side6 ?side7 ?side8 A27.out).mono ?_
            (case side1 => repeat (first | exact (Kd.S_reads' HO242.out).2.2 | (with_reducible refine Kd.C_alloc ?_ _) | (with_reducible refine Kd.C_drewN ?_ _) | (with_reducible refine Kd.C_drew ?_)))
            (case side2 => exact (Kd.S_reads' HO242.out).2.1)
            (case side3 => repeat (first | exact (Kd.S_reads' HO245.out).2.2 | (with_reducible refine Kd.C_alloc ?_ _) | (with_reducible refine Kd.C_drewN ?_ _) | (with_reducible refine Kd.C_drew ?_)))
            (case side4 => exact (Kd.S_reads' HO245.out).2.1)
            (case side5 => repeat (first | exact (Kd.S_reads' HO257.out).2.2 | (with_reducible refine Kd.C_alloc ?_ _) | (with_reducible refine Kd.C_drewN ?_ _) | (with_reducible refine Kd.C_drew ?_)))
            (case side6 => exact (Kd.S_reads' HO257.out).2.1)
            (case side7 => repeat (first | exact (Kd.S_reads' HO260.out).2.2 | (with_reducible refine Kd.C_alloc ?_ _) | (with_reducible refine Kd.C_drewN ?_ _) | (with_reducible refine Kd.C_drew ?_)))
            (case side8 => exact (Kd.S_reads' HO260.out).2.1)
            rintro e w70 ⟨rfl, hb⟩
            refine ⟨_, rfl, ?_⟩
            have n0_ := Aside0.mk (Kd.S_below (carS HO229.out) hb)
            have n1_ := Aside0.mk (Kd.S_below (carS HO232.out) hb)
            have n2_ := Aside0.mk (Kd.S_below (carS HO235.out) hb)
            have n3_ := Aside0.mk (Kd.S_below (carS HO238.out) hb)
            have n4_ := Aside0.mk (Kd.S_below (carS HO242.out) hb)
            have n5_ := Aside0.mk (Kd.S_below (carS HO245.out) hb)
            have n6_ := Aside0.mk (Kd.S_below (carS HO249.out) hb)
            have n7_ := Aside0.mk (Kd.S_below (carS HO252.out) hb)
            have n8_ := Aside0.mk (Kd.S_below (carS HO257.out) hb)
            have n9_ := Aside0.mk (Kd.S_below (carS HO260.out) hb)
            have n10_ := Aside0.mk (blk_below (g := gb223) (o := .cells #[.slice A0_0 l0_0.length c0_0, .slice A0_1 l0_1.length c0_1] 27 (0, 0)) (carB BK223.out) hb)
            have n11_ := Aside0.mk (blk_below (g := gb224) (o := .cells #[.slice A1_0 l1_0.length c1_0, .slice A1_1 l1_1.length c1_1] 27 (0, 0)) (carB BK224.out) hb)
            have n12_ := Aside0.mk (blk_below (g := gb246) (o := .cells #[.slice Ao50 t240.length co50, .slice Ao54 t243.length co54] 33 (0, 0)) (carB BK246.out) hb)
            have n13_ := Aside0.mk (blk_below (g := gb253) (o := .cells #[.slice Ao58 t247.length co58, .slice Ao63 t250.length co63] 33 (0, 0)) (carB BK253.out) hb)
            have n14_ := Aside0.mk (below_step (carH HB.out) hb)
            clear HO229
            clear HO232
            clear HO235
            clear HO238
            clear HO242
            clear HO245
            clear HO249
            clear HO252
            clear HO257
            clear HO260
            clear BK223
            clear BK224
            clear BK246
            clear BK253
            clear HB
            have HO229 := n0_
            have HO232 := n1_
            have HO235 := n2_
            have HO238 := n3_
            have HO242 := n4_
            have HO245 := n5_
            have HO249 := n6_
            have HO252 := n7_
            have HO257 := n8_
            have HO260 := n9_
            have BK223 := n10_
            have BK224 := n11_
            have BK246 := n12_
            have BK253 := n13_
            have HB := n14_
            clear n0_ n1_ n2_ n3_ n4_ n5_ n6_ n7_ n8_ n9_ n10_ n11_ n12_ n13_ n14_
            (try clear hb)
            (try clear hb2)
            (try clear hk)
            (try clear hi)
            refine hK.out _ _ ⟨(blk_cell BK246.out 0).trans rfl, (blk_cell BK246.out 1).trans rfl, (blk_cell BK223.out 0).trans rfl, (blk_cell BK223.out 1).trans rfl⟩ (fun hHeld => ?_)
            clear hK K
            refine norm_ (a' := ?_) ?_ ?_
            rotate_left
            · show Act.put _ (some 38) _ = _
              simp only [Act.put, List.setIfInBounds_toArray, List.set_cons_zero, List.set_cons_succ, i64_w, i32_w]
              rfl
            refine pure_ (i := 4) (N := some 39) (v := ?_) (a' := ?_) #[true, true, true, true, true] rfl rfl (by kernel_rfl) (fun _ _ _ h => h) (Or.inl ⟨by rfl, ?_⟩) ?_ ?_
            rotate_left
            · intro w'
              go_simp
              with_reducible rfl
            rotate_left
            · simp only [Act.put, List.setIfInBounds_toArray, List.set_cons_zero, List.set_cons_succ, i64_w, i32_w]
              rfl
            refine done_ (by kernel_rfl) ?_
            try go_wp2
            have n0_ := Aside0.mk (Kd.S_drew HO229.out)
            have n1_ := Aside0.mk (Kd.S_drew HO232.out)
            have n2_ := Aside0.mk (Kd.S_drew HO235.out)
            have n3_ := Aside0.mk (Kd.S_drew HO238.out)
            have n4_ := Aside0.mk (Kd.S_drew HO242.out)
            have n5_ := Aside0.mk (Kd.S_drew HO245.out)
            have n6_ := Aside0.mk (Kd.S_drew HO249.out)
            have n7_ := Aside0.mk (Kd.S_drew HO252.out)
            have n8_ := Aside0.mk (Kd.S_drew HO257.out)
            have n9_ := Aside0.mk (Kd.S_drew HO260.out)
            have n10_ := Aside0.mk (blk_drew BK223.out)
            have n11_ := Aside0.mk (blk_drew BK224.out)
            have n12_ := Aside0.mk (blk_drew BK246.out)
            have n13_ := Aside0.mk (blk_drew BK253.out)
            have n14_ := Aside0.mk (below_drew1 HB.out)
            clear HO229
            clear HO232
            clear HO235
            clear HO238
            clear HO242
            clear HO245
            clear HO249
            clear HO252
            clear HO257
            clear HO260
            clear BK223
            clear BK224
            clear BK246
            clear BK253
            clear HB
            have HO229 := n0_
            have HO232 := n1_
            have HO235 := n2_
            have HO238 := n3_
            have HO242 := n4_
            have HO245 := n5_
            have HO249 := n6_
            have HO252 := n7_
            have HO257 := n8_
            have HO260 := n9_
            have BK223 := n10_
            have BK224 := n11_
            have BK246 := n12_
            have BK253 := n13_
            have HB := n14_
            clear n0_ n1_ n2_ n3_ n4_ n5_ n6_ n7_ n8_ n9_ n10_ n11_ n12_ n13_ n14_
            refine start_ (n := 5) (S := fun w' => w'.cell? ⟨gb253, 0, none⟩ = some (.slice Ao58 t247.length co58) ∧ w'.cell? ⟨gb253, 1, none⟩ = some (.slice Ao63 t250.length co63) ∧ w'.cell? ⟨gb224, 0, none⟩ = some (.slice A1_0 l1_0.length c1_0) ∧ w'.cell? ⟨gb224, 1, none⟩ = some (.slice A1_1 l1_1.length c1_1)) (ds := []) #[false, false, false, false, false] (by kernel_rfl) rfl rfl ⟨(blk_cell BK253.out 0).trans rfl, (blk_cell BK253.out 1).trans rfl, (blk_cell BK224.out 0).trans rfl, (blk_cell BK224.out 1).trans rfl⟩ (fun hHeld => ?_)
            generalize w70.drew = w71 at HO229 HO232 HO235 HO238 HO242 HO245 HO249 HO252 HO257 HO260 BK223 BK224 BK246 BK253 HB hHeld ⊢
            refine take_ (i := 0) (N := some 40) (v := ?_) (a' := ?_) #[true, false, false, false, false] rfl rfl (by kernel_rfl) (fun _ _ _ h => h) (Or.inl ⟨by rfl, ?_⟩) hHeld ?_ ?_
            rotate_left
            · rintro w' ⟨s0, s1, s2, s3⟩
              go_simp
              with_reducible rfl
            rotate_left
            · simp only [Act.put, List.setIfInBounds_toArray, List.set_cons_zero, List.set_cons_succ, i64_w, i32_w]
              rfl
            refine take_ (i := 1) (N := some 41) (v := ?_) (a' := ?_) #[true, true, false, false, false] rfl rfl (by kernel_rfl) (fun _ _ _ h => h) (Or.inl ⟨by rfl, ?_⟩) hHeld ?_ ?_
            rotate_left
            · rintro w' ⟨s0, s1, s2, s3⟩
              go_simp
              with_reducible rfl
            rotate_left
            · simp only [Act.put, List.setIfInBounds_toArray, List.set_cons_zero, List.set_cons_succ, i64_w, i32_w]
              rfl
            refine one_ (i := 2) (N := some 42) #[true, true, true, false, false] rfl rfl (by kernel_rfl) (by decide) (fun K hK => ?_)
            refine goes_ Try.func10 (by kernel_rfl) rfl #[.agg #[.slice A1_0 l1_0.length c1_0, .slice A1_1 l1_1.length c1_1]] (by rfl) rfl rfl (by (try simp only [List.map_toArray, List.map_cons, List.map_nil]); first | done | rfl | (simp only [List.length_drop, List.length_take]; rfl)) ?_
            with_reducible refine (laws_toProg.calls k _ _ l1_0 _ _ l1_1 t262 t265 _ ?side1 ?side2 ?side3 ?side4 A29.out).mono ?_
            (case side1 => repeat (first | exact (Kd.C_below HR1_0.out HB.out) | (with_reducible refine Kd.C_alloc ?_ _) | (with_reducible refine Kd.C_drewN ?_ _) | (with_reducible refine Kd.C_drew ?_)))
            (case side2 => exact HC1_0.out)
            (case side3 => repeat (first | exact (Kd.C_below HR1_1.out HB.out) | (with_reducible refine Kd.C_alloc ?_ _) | (with_reducible refine Kd.C_drewN ?_ _) | (with_reducible refine Kd.C_drew ?_)))
            (case side4 => exact HC1_1.out)
            rintro e w72 ⟨v263, v266, rfl, ho0, ho1, hb⟩
            refine ⟨_, rfl, ?_⟩
            have n0_ := Aside0.mk (Kd.S_elder' (carS HO229.out) (Kd.S_base ho0) hb)
            have n1_ := Aside0.mk (Kd.S_elder' (carS HO232.out) (Kd.S_base ho1) hb)
            have n2_ := Aside0.mk (Kd.S_elder' (carS HO235.out) (Kd.S_base ho0) hb)
            have n3_ := Aside0.mk (Kd.S_elder' (carS HO238.out) (Kd.S_base ho1) hb)
            have n4_ := Aside0.mk (Kd.S_elder' (carS HO242.out) (Kd.S_base ho0) hb)
            have n5_ := Aside0.mk (Kd.S_elder' (carS HO245.out) (Kd.S_base ho1) hb)
            have n6_ := Aside0.mk (Kd.S_elder' (carS HO249.out) (Kd.S_base ho0) hb)
            have n7_ := Aside0.mk (Kd.S_elder' (carS HO252.out) (Kd.S_base ho1) hb)
            have n8_ := Aside0.mk (Kd.S_elder' (carS HO257.out) (Kd.S_base ho0) hb)
            have n9_ := Aside0.mk (Kd.S_elder' (carS HO260.out) (Kd.S_base ho1) hb)
            have n10_ := Aside0.mk (Kd.S_lower (Kd.S_new' (Kd.S_new' (Kd.S_new' (Kd.S_new' (Kd.S_new' ho0 (Kd.S_lt (carS HO229.out))) (Kd.S_lt (carS HO235.out))) (Kd.S_lt (carS HO242.out))) (Kd.S_lt (carS HO249.out))) (Kd.S_lt (carS HO257.out))) (below_size (carH HB.out)))
            have n11_ := Aside0.mk (Kd.S_lower (Kd.S_new' (Kd.S_new' (Kd.S_new' (Kd.S_new' (Kd.S_new' ho1 (Kd.S_lt (carS HO232.out))) (Kd.S_lt (carS HO238.out))) (Kd.S_lt (carS HO245.out))) (Kd.S_lt (carS HO252.out))) (Kd.S_lt (carS HO260.out))) (below_size (carH HB.out)))
            have n12_ := Aside0.mk (blk_below (g := gb223) (o := .cells #[.slice A0_0 l0_0.length c0_0, .slice A0_1 l0_1.length c0_1] 27 (0, 0)) (carB BK223.out) hb)
            have n13_ := Aside0.mk (blk_below (g := gb224) (o := .cells #[.slice A1_0 l1_0.length c1_0, .slice A1_1 l1_1.length c1_1] 27 (0, 0)) (carB BK224.out) hb)
            have n14_ := Aside0.mk (blk_below (g := gb246) (o := .cells #[.slice Ao50 t240.length co50, .slice Ao54 t243.length co54] 33 (0, 0)) (carB BK246.out) hb)
            have n15_ := Aside0.mk (blk_below (g := gb253) (o := .cells #[.slice Ao58 t247.length co58, .slice Ao63 t250.length co63] 33 (0, 0)) (carB BK253.out) hb)
            have n16_ := Aside0.mk (below_step (carH HB.out) hb)
            clear HO229
            clear HO232
            clear HO235
            clear HO238
            clear HO242
            clear HO245
            clear HO249
            clear HO252
            clear HO257
            clear HO260
            clear BK223
            clear BK224
            clear BK246
            clear BK253
            clear HB
            have HO229 := n0_
            have HO232 := n1_
            have HO235 := n2_
            have HO238 := n3_
            have HO242 := n4_
            have HO245 := n5_
            have HO249 := n6_
            have HO252 := n7_
            have HO257 := n8_
            have HO260 := n9_
            have HO264 := n10_
            have HO267 := n11_
            have BK223 := n12_
            have BK224 := n13_
            have BK246 := n14_
            have BK253 := n15_
            have HB := n16_
            clear n0_ n1_ n2_ n3_ n4_ n5_ n6_ n7_ n8_ n9_ n10_ n11_ n12_ n13_ n14_ n15_ n16_
            (try clear hb)
            (try clear hb2)
            (try clear hk)
            (try clear hi)
            (try clear ho0)
            (try clear ho1)
            obtain ⟨Ao73, co73, eo73⟩ := Kd.S_slice HO264.out
            (first | subst eo73 | (injection eo73 with f1_ f2_ f3_; have f4_ := f1_.symm; have f5_ := f3_.symm; clear f1_ f2_ f3_; subst f4_; subst f5_))
            obtain ⟨Ao74, co74, eo74⟩ := Kd.S_slice HO267.out
            (first | subst eo74 | (injection eo74 with f1_ f2_ f3_; have f4_ := f1_.symm; have f5_ := f3_.symm; clear f1_ f2_ f3_; subst f4_; subst f5_))
            refine hK.out _ _ ⟨(blk_cell BK253.out 0).trans rfl, (blk_cell BK253.out 1).trans rfl, (blk_cell BK224.out 0).trans rfl, (blk_cell BK224.out 1).trans rfl⟩ (fun hHeld => ?_)
            clear hK K
            refine norm_ (a' := ?_) ?_ ?_
            rotate_left
            · show Act.put _ (some 42) _ = _
              simp only [Act.put, List.setIfInBounds_toArray, List.set_cons_zero, List.set_cons_succ, i64_w, i32_w]
              rfl
            refine one_ (i := 3) (N := some 43) #[true, true, true, true, false] rfl rfl (by kernel_rfl) (by decide) (fun K hK => ?_)
            refine goes_ Try.func12 (by kernel_rfl) rfl #[.agg #[.slice Ao58 t247.length co58, .slice Ao63 t250.length co63], .agg #[.slice Ao73 t262.length co73, .slice Ao74 t265.length co74]] (by rfl) rfl rfl (by (try simp only [List.map_toArray, List.map_cons, List.map_nil]); first | done | rfl | (simp only [List.length_drop, List.length_take]; rfl)) ?_
            with_reducible refine (laws_eqProg.calls k _ _ t247 _ _ t250 _ _ t262 _ _ t265 true _ ?side1 ?side2 ?side3 ?side4 ?side5 ?side6 ?side7 ?side8 A30.out).mono ?_
            (case side1 => repeat (first | exact (Kd.S_reads' HO249.out).2.2 | (with_reducible refine Kd.C_alloc ?_ _) | (with_reducible refine Kd.C_drewN ?_ _) | (with_reducible refine Kd.C_drew ?_)))
            (case side2 => exact (Kd.S_reads' HO249.out).2.1)
            (case side3 => repeat (first | exact (Kd.S_reads' HO252.out).2.2 | (with_reducible refine Kd.C_alloc ?_ _) | (with_reducible refine Kd.C_drewN ?_ _) | (with_reducible refine Kd.C_drew ?_)))
            (case side4 => exact (Kd.S_reads' HO252.out).2.1)
            (case side5 => repeat (first | exact (Kd.S_reads' HO264.out).2.2 | (with_reducible refine Kd.C_alloc ?_ _) | (with_reducible refine Kd.C_drewN ?_ _) | (with_reducible refine Kd.C_drew ?_)))
            (case side6 => exact (Kd.S_reads' HO264.out).2.1)
            (case side7 => repeat (first | exact (Kd.S_reads' HO267.out).2.2 | (with_reducible refine Kd.C_alloc ?_ _) | (with_reducible refine Kd.C_drewN ?_ _) | (with_reducible refine Kd.C_drew ?_)))
            (case side8 => exact (Kd.S_reads' HO267.out).2.1)
            rintro e w75 ⟨rfl, hb⟩
            refine ⟨_, rfl, ?_⟩
            have n0_ := Aside0.mk (Kd.S_below (carS HO229.out) hb)
            have n1_ := Aside0.mk (Kd.S_below (carS HO232.out) hb)
            have n2_ := Aside0.mk (Kd.S_below (carS HO235.out) hb)
            have n3_ := Aside0.mk (Kd.S_below (carS HO238.out) hb)
            have n4_ := Aside0.mk (Kd.S_below (carS HO242.out) hb)
            have n5_ := Aside0.mk (Kd.S_below (carS HO245.out) hb)
            have n6_ := Aside0.mk (Kd.S_below (carS HO249.out) hb)
            have n7_ := Aside0.mk (Kd.S_below (carS HO252.out) hb)
            have n8_ := Aside0.mk (Kd.S_below (carS HO257.out) hb)
            have n9_ := Aside0.mk (Kd.S_below (carS HO260.out) hb)
            have n10_ := Aside0.mk (Kd.S_below (carS HO264.out) hb)
            have n11_ := Aside0.mk (Kd.S_below (carS HO267.out) hb)
            have n12_ := Aside0.mk (blk_below (g := gb223) (o := .cells #[.slice A0_0 l0_0.length c0_0, .slice A0_1 l0_1.length c0_1] 27 (0, 0)) (carB BK223.out) hb)
            have n13_ := Aside0.mk (blk_below (g := gb224) (o := .cells #[.slice A1_0 l1_0.length c1_0, .slice A1_1 l1_1.length c1_1] 27 (0, 0)) (carB BK224.out) hb)
            have n14_ := Aside0.mk (blk_below (g := gb246) (o := .cells #[.slice Ao50 t240.length co50, .slice Ao54 t243.length co54] 33 (0, 0)) (carB BK246.out) hb)
            have n15_ := Aside0.mk (blk_below (g := gb253) (o := .cells #[.slice Ao58 t247.length co58, .slice Ao63 t250.length co63] 33 (0, 0)) (carB BK253.out) hb)
            have n16_ := Aside0.mk (below_step (carH HB.out) hb)
            clear HO229
            clear HO232
            clear HO235
            clear HO238
            clear HO242
            clear HO245
            clear HO249
            clear HO252
            clear HO257
            clear HO260
            clear HO264
            clear HO267
            clear BK223
            clear BK224
            clear BK246
            clear BK253
            clear HB
            have HO229 := n0_
            have HO232 := n1_
            have HO235 := n2_
            have HO238 := n3_
            have HO242 := n4_
            have HO245 := n5_
            have HO249 := n6_
            have HO252 := n7_
            have HO257 := n8_
            have HO260 := n9_
            have HO264 := n10_
            have HO267 := n11_
            have BK223 := n12_
            have BK224 := n13_
            have BK246 := n14_
            have BK253 := n15_
            have HB := n16_
            clear n0_ n1_ n2_ n3_ n4_ n5_ n6_ n7_ n8_ n9_ n10_ n11_ n12_ n13_ n14_ n15_ n16_
            (try clear hb)
            (try clear hb2)
            (try clear hk)
            (try clear hi)
            refine hK.out _ _ ⟨(blk_cell BK253.out 0).trans rfl, (blk_cell BK253.out 1).trans rfl, (blk_cell BK224.out 0).trans rfl, (blk_cell BK224.out 1).trans rfl⟩ (fun hHeld => ?_)
            clear hK K
            refine norm_ (a' := ?_) ?_ ?_
            rotate_left
            · show Act.put _ (some 43) _ = _
              simp only [Act.put, List.setIfInBounds_toArray, List.set_cons_zero, List.set_cons_succ, i64_w, i32_w]
              rfl
            refine pure_ (i := 4) (N := some 44) (v := ?_) (a' := ?_) #[true, true, true, true, true] rfl rfl (by kernel_rfl) (fun _ _ _ h => h) (Or.inl ⟨by rfl, ?_⟩) ?_ ?_
            rotate_left
            · intro w'
              go_simp
              with_reducible rfl
            rotate_left
            · simp only [Act.put, List.setIfInBounds_toArray, List.set_cons_zero, List.set_cons_succ, i64_w, i32_w]
              rfl
            refine done_ (by kernel_rfl) ?_
            try go_wp2
            go_ret
            exact ⟨by first | rfl | (simp [errW_none, errW_some] <;> rfl) | (simp [*, errW_none, errW_some] <;> rfl) | (simp only [xne_nil, xeq_nil]; first | rfl | (simp [errW_none, errW_some] <;> rfl)), by repeat (first | (with_reducible first | exact HB.out | apply below_alloc | apply pw_below_drewN | apply below_drew1 | refine below_set ?_ GE223.out | refine below_set ?_ GE224.out | refine below_set ?_ GE246.out | refine below_set ?_ GE253.out) | exact HB.out)⟩
          · replace c31 := Bool.eq_false_iff.mpr c31
            subst c31
            have H1 : (some false) = some r := by rw [if_neg (show ¬ (false = true) by decide)] at H; exact H
            clear H
            have H := H1
            clear H1
            exact absurd ((Option.some.inj H).trans hr1) (by simp)
        · replace c28 := Bool.eq_false_iff.mpr c28
          subst c28
          have H1 : (some false) = some r := by rw [if_neg (show ¬ (false = true) by decide)] at H; exact H
          clear H
          have H := H1
          clear H1
          exact absurd ((Option.some.inj H).trans hr1) (by simp)

/-- THE ONE PURE STATEMENT of laws_FnExactSameProg: yours. -/
def laws_FnExactSameProg.Pure : Prop := ∀ (l0_0 : List (S58)) (l0_1 : List (S60)) (l1_0 : List (S58)) (l1_1 : List (S60)), l0_0.length ≤ maxLen → (∀ x ∈ l0_0, (Lit.int .i64 x.f0).wf = true ∧ x.f1.size ≤ maxLen ∧ x.f2.size ≤ maxLen ∧ (Lit.int .i64 x.f3).wf = true ∧ x.f4.length ≤ maxLen ∧ (∀ y ∈ x.f4, (Lit.int .i64 y).wf = true)) → l0_1.length ≤ maxLen → (∀ x ∈ l0_1, (Lit.int .i64 x.f0).wf = true ∧ x.f1.size ≤ maxLen ∧ x.f2.length ≤ maxLen ∧ (∀ y ∈ x.f2, y.size ≤ maxLen) ∧ (Lit.int .i64 x.f3).wf = true ∧ (Lit.int .i64 x.f4).wf = true) → l1_0.length ≤ maxLen → (∀ x ∈ l1_0, (Lit.int .i64 x.f0).wf = true ∧ x.f1.size ≤ maxLen ∧ x.f2.size ≤ maxLen ∧ (Lit.int .i64 x.f3).wf = true ∧ x.f4.length ≤ maxLen ∧ (∀ y ∈ x.f4, (Lit.int .i64 y).wf = true)) → l1_1.length ≤ maxLen → (∀ x ∈ l1_1, (Lit.int .i64 x.f0).wf = true ∧ x.f1.size ≤ maxLen ∧ x.f2.length ≤ maxLen ∧ (∀ y ∈ x.f2, y.size ≤ maxLen) ∧ (Lit.int .i64 x.f3).wf = true ∧ (Lit.int .i64 x.f4).wf = true) → ∃ k, laws_FnExactSameProg.f k l0_0 l0_1 l1_0 l1_1 = some true
theorem laws_FnExactSameProg.walk (P : laws_FnExactSameProg.Pure) (a0_0 : Option Addr) (cap0_0 : Nat) (l0_0 : List (S58)) (a0_1 : Option Addr) (cap0_1 : Nat) (l0_1 : List (S60)) (a1_0 : Option Addr) (cap1_0 : Nat) (l1_0 : List (S58)) (a1_1 : Option Addr) (cap1_1 : Nat) (l1_1 : List (S60)) (w : World) (w0_0 : Kd.C k58 w a0_0 l0_0.length l0_0) (hc0_0 : l0_0.length ≤ cap0_0) (hm0_0 : l0_0.length ≤ maxLen) (hw0_0 : ∀ x ∈ l0_0, (Lit.int .i64 x.f0).wf = true ∧ x.f1.size ≤ maxLen ∧ x.f2.size ≤ maxLen ∧ (Lit.int .i64 x.f3).wf = true ∧ x.f4.length ≤ maxLen ∧ (∀ y ∈ x.f4, (Lit.int .i64 y).wf = true)) (w0_1 : Kd.C k60 w a0_1 l0_1.length l0_1) (hc0_1 : l0_1.length ≤ cap0_1) (hm0_1 : l0_1.length ≤ maxLen) (hw0_1 : ∀ x ∈ l0_1, (Lit.int .i64 x.f0).wf = true ∧ x.f1.size ≤ maxLen ∧ x.f2.length ≤ maxLen ∧ (∀ y ∈ x.f2, y.size ≤ maxLen) ∧ (Lit.int .i64 x.f3).wf = true ∧ (Lit.int .i64 x.f4).wf = true) (w1_0 : Kd.C k58 w a1_0 l1_0.length l1_0) (hc1_0 : l1_0.length ≤ cap1_0) (hm1_0 : l1_0.length ≤ maxLen) (hw1_0 : ∀ x ∈ l1_0, (Lit.int .i64 x.f0).wf = true ∧ x.f1.size ≤ maxLen ∧ x.f2.size ≤ maxLen ∧ (Lit.int .i64 x.f3).wf = true ∧ x.f4.length ≤ maxLen ∧ (∀ y ∈ x.f4, (Lit.int .i64 y).wf = true)) (w1_1 : Kd.C k60 w a1_1 l1_1.length l1_1) (hc1_1 : l1_1.length ≤ cap1_1) (hm1_1 : l1_1.length ≤ maxLen) (hw1_1 : ∀ x ∈ l1_1, (Lit.int .i64 x.f0).wf = true ∧ x.f1.size ≤ maxLen ∧ x.f2.length ≤ maxLen ∧ (∀ y ∈ x.f2, y.size ≤ maxLen) ∧ (Lit.int .i64 x.f3).wf = true ∧ (Lit.int .i64 x.f4).wf = true) :
    Calls Try.prog 5 #[.agg #[.slice a0_0 l0_0.length cap0_0, .slice a0_1 l0_1.length cap0_1], .agg #[.slice a1_0 l1_0.length cap1_0, .slice a1_1 l1_1.length cap1_1]] w fun e w' => e = .returned (.bool true) ∧ Below w.heap.size w w' := by
  obtain ⟨k, h⟩ := P l0_0 l0_1 l1_0 l1_1 hm0_0 hw0_0 hm0_1 hw0_1 hm1_0 hw1_0 hm1_1 hw1_1
  refine (laws_FnExactSameProg.calls k _ _ l0_0 _ _ l0_1 _ _ l1_0 _ _ l1_1 true w w0_0 hc0_0 w0_1 hc0_1 w1_0 hc1_0 w1_1 hc1_1 h rfl).mono ?_
  rintro e w' ⟨rfl, hd⟩
  exact ⟨rfl, hd⟩

end Go.Proofs.Ytmddcohelcciaab.PFnExactSameProg
