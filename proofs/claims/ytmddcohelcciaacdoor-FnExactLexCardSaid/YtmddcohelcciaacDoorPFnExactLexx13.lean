-- XPRINTED: written by a program of this session (wip/xprint), which turns the kit's print
import Derived.Test.YtmddcohelcciaacDoorPFnExactLexx0
import Derived.Test.YtmddcohelcciaacDoorPFnExactLexx6
import Derived.Test.YtmddcohelcciaacDoorPFnExactLexx11
import Derived.Test.YtmddcohelcciaacDoorPFnExactLexx12
namespace Go.Proofs.YtmddcohelcciaacDoor.PFnExactLex
open Go.RowKit Go.Proofs.YtmddcohelcciaacDoorW.PrintWords Go.Proofs.YtmddcohelcciaacDoorW.PrintLast Go.Proofs.YtmddcohelcciaacDoorW.PrintMore
attribute [local go_sem] max2_int min2_int max_two min_two max_three min_three max_four min_four   -- for this text's walks alone
set_option linter.unusedVariables false
set_option linter.unusedSimpArgs false

/-! ### impl_Lex: function 5 -/
def impl_Lex.l0 : Nat → ByteArray → List (S30) → Int → Int → ByteArray → Int → Int → Option ((List (S30)) × Int)
 | 0, _, _, _, _, _, _, _ => none
 | k + 1, x0, x4, x6, x254000, x254001, x254002, x254003 => if x6 < (x0.size : Int) then (if 0 ≤ x6 then ((impl_isSpace.f (bt x0 x6)).bind fun t254 => (if t254 = true then (impl_Lex.l0 k x0 x4 (wrap64 (x6 + 1)) x254000 x254001 x254002 x254003) else (if (bt x0 x6) = 35 then ((impl_run_Lex_1.f k x0 x6).bind fun t255 => (impl_Lex.l0 k x0 x4 (wrap64 (x6 + t255)) x254000 x254001 x254002 x254003)) else (if x6 ≤ (x0.size : Int) then ((impl_lexOne.f k (x0.extract (x6 : Int).toNat x0.size) x254000 x254001 x254002 x254003).bind fun bt256 => (if bt256.2.2.2.2 = 0 then (some (([] : List (S30)), x6)) else (if x4.length < 3518437208883 then (impl_Lex.l0 k x0 (x4 ++ [(⟨bt256.1, bt256.2.1, bt256.2.2.1, x6⟩ : S30)]) (wrap64 (x6 + bt256.2.2.2.2)) bt256.1 bt256.2.1 bt256.2.2.1 x6) else (none)))) else (none))))) else (none)) else (some (x4, (-1)))
def impl_Lex.f (k : Nat) (a0 : ByteArray) : Option ((List (S30)) × Int) := if (a0.size : Int) > 4000 then (some (([] : List (S30)), 0)) else (impl_Lex.l0 k a0 (([] : List (S30))) 0 0 (⟨#[]⟩ : ByteArray) 0 0)
theorem impl_Lex.mono_l : ∀ k, (∀ y0 y1 y2 y3 y4 y5 y6, LeO (impl_Lex.l0 k y0 y1 y2 y3 y4 y5 y6) (impl_Lex.l0 (k + 1) y0 y1 y2 y3 y4 y5 y6))
 | 0 => fun _ _ _ _ _ _ _ r h => by simp [impl_Lex.l0] at h
 | k + 1 => by
  have ih0 := impl_Lex.mono_l k
  ·
   intro y0 y1 y2 y3 y4 y5 y6
   unfold impl_Lex.l0
   repeat' first
   | (with_reducible exact ih0 _ _ _ _ _ _ _)
   | (with_reducible exact impl_lexOne.mono _ _ _ _ _ _)
   | (with_reducible exact impl_run_Lex_1.mono _ _ _)
   | (with_reducible exact LeO.refl _)
   | (with_reducible exact LeO.none _)
   | (with_reducible refine LeO.ite ?_ ?_)
   | (with_reducible refine LeO.bind ?_ (fun _ => ?_))
   | exact ih0 _ _ _ _ _ _ _
   | exact impl_lexOne.mono _ _ _ _ _ _
   | exact impl_run_Lex_1.mono _ _ _
   | exact LeO.none _
   | refine LeO.ite ?_ ?_
   | refine LeO.bind ?_ (fun _ => ?_)
theorem impl_Lex.mono : ∀ a0 k, LeO (impl_Lex.f k a0) (impl_Lex.f (k + 1) a0) := by
 intro a0 k
 have ih0 := impl_Lex.mono_l k
 unfold impl_Lex.f
 repeat' first
   | (with_reducible exact ih0 _ _ _ _ _ _ _)
   | (with_reducible exact impl_lexOne.mono _ _ _ _ _ _)
   | (with_reducible exact impl_run_Lex_1.mono _ _ _)
   | (with_reducible exact LeO.refl _)
   | (with_reducible exact LeO.none _)
   | (with_reducible refine LeO.ite ?_ ?_)
   | (with_reducible refine LeO.bind ?_ (fun _ => ?_))
   | exact ih0 _ _ _ _ _ _ _
   | exact impl_lexOne.mono _ _ _ _ _ _
   | exact impl_run_Lex_1.mono _ _ _
   | exact LeO.none _
   | refine LeO.ite ?_ ?_
   | refine LeO.bind ?_ (fun _ => ?_)
def impl_Lex.T10 : Bool × List (List Nat × List Nat) := (true, [([], []), ([], []), ([0, 1], [0, 1]), ([], []), ([2, 3], [2, 3]), ([4], [4]), ([5], [5]), ([5], [5]), ([], []), ([8, 6, 4, 0, 1, 2, 3, 4, 5, 6, 8], [6, 8]), ([7, 9, 0, 1, 2, 3, 4, 5, 6, 7, 8, 9], [7])])
def impl_Lex.B10 : List Nat := [0, 0, 3, 0, 15, 31, 63, 63, 0, 383, 1023]
theorem impl_Lex.tab10 : rtab .any (opsOf Tryd.f5 10) = impl_Lex.T10 := by kernel_rfl
theorem impl_Lex.bits10 : waitsOk impl_Lex.T10.2 impl_Lex.B10 = true := by kernel_rfl
def impl_Lex.T14 : Bool × List (List Nat × List Nat) := (true, [([], []), ([], []), ([1], [1]), ([0, 2], [0, 2]), ([], []), ([], []), ([], []), ([5, 6], [5, 6]), ([3, 3, 0, 1, 2, 3], [0, 3]), ([4, 8, 0, 1, 2, 3, 4, 8], [4]), ([7, 9, 0, 1, 2, 3, 4, 5, 6, 7, 8, 9], [5, 7])])
def impl_Lex.B14 : List Nat := [0, 0, 2, 7, 0, 0, 0, 96, 15, 287, 1023]
theorem impl_Lex.tab14 : rtab .any (opsOf Tryd.f5 14) = impl_Lex.T14 := by kernel_rfl
theorem impl_Lex.bits14 : waitsOk impl_Lex.T14.2 impl_Lex.B14 = true := by kernel_rfl
set_option maxHeartbeats 8000000 in
set_option maxRecDepth 100000 in
theorem impl_Lex.calls (k : Nat) (a0 : ByteArray) (r1 : List (S30)) (r2 : Int) (w : World) (hL : LaidW w) (h : impl_Lex.f k a0 = some (r1, r2)) :
  Calls Tryd.prog 5 #[.string a0] w fun e w' => ∃ v0_ : Value, e = .returned (.tuple #[v0_, .int .i64 r2]) ∧ Kd.R k30 30 w' w.heap.size (fun _ => True) v0_ r1 ∧ Below w.heap.size w w' := by
 have hu30 := Tryd.underlying30
 have HB := Aside0.mk (Below.refl w.heap.size w)
 have H : (if (a0.size : Int) > 4000 then (some (([] : List (S30)), 0)) else (impl_Lex.l0 k a0 (([] : List (S30))) 0 0 (⟨#[]⟩ : ByteArray) 0 0)) = some (r1, r2) := h
 clear h
 by_cases c2 : (a0.size : Int) > 4000
 ·
  rw [if_pos c2] at H
  have c2b0 : decide (4000 < (a0.size : Int)) = true := decide_eq_true c2
  have c2b1 : decide (4000 < a0.size) = true := decide_eq_true (by omega)
  clear c2
  simp only [Option.some.injEq, Prod.mk.injEq] at H
  obtain ⟨rfl, rfl⟩ := H
  go_enter Tryd.func5, Tryd.ntmps5
  go_wp2
  go_ret2
  exact ⟨_, retK, by first | exact Kd.R_nil _ _ _ _ _ | exact Kd.N_nil _ _ _ _ _ | exact Kd.V_nil _ _ _ _ _ | exact Kd.Q_nil _ _ _ _ _ | exact Kd.S_nil _ _ _ _ _, carH HB.out⟩
 ·
  rw [if_neg c2] at H
  have c2b0 : decide (4000 < (a0.size : Int)) = false := decide_eq_false c2
  have c2b1 : decide (4000 < a0.size) = false := decide_eq_false (by omega)
  clear c2
  obtain ⟨y250, hy250⟩ : ∃ y_ : List (S30), y_ = (([] : List (S30))) := ⟨_, rfl⟩
  replace H : (impl_Lex.l0 k a0 y250 0 0 (⟨#[]⟩ : ByteArray) 0 0) = some (r1, r2) := by first | (rw [hy250]; with_reducible exact H) | (have H2_ := (Option.bind_some _ _).symm.trans H; rw [hy250]; with_reducible exact H2_) | (have H2_ := (Option.bind_some _ _).symm.trans H; with_reducible exact H2_) | with_reducible exact H | (rw [hy250]; exact H) | exact H
  have Ny250 := Aside0.mk hy250
  clear hy250
  have H' := Aside0.mk H
  clear H
  go_enter Tryd.func5, Tryd.ntmps5
  go_wp2_with (first | ((with_reducible refine gate_dst (N := 12) rfl ?_); refine Kd.R_lit k30 _ 30 ?hg (N := 12) ?hd (xs := ([] : List (S30))) (inner := []) (ok := fun _ => True) (okp := fun _ => True) ?hr ?hp (fun _ hk => hk) trivial (Below.refl _ _) (Nat.le_refl _) (by simp) ?_; (case hd => rfl); (case hg => rfl); (case hr => first | (go_simp; done) | (go_simp; rfl)); (case hp => exact (Reps.none _ _)); intro v251 w3 ho4 hb hg_ hnew_; clear hg_ hnew_; (first | rw [← Ny250.out] at ho4 | (simp only [Int.reduceToNat] at ho4; rw [← Ny250.out] at ho4)); have n0_ := Aside0.mk (Kd.R_lower ho4 (below_size (carH HB.out))); have n1_ := Aside0.mk (below_step (carH HB.out) hb); clear HB; have HO252 := n0_; have HB := n1_; clear n0_ n1_; clear hb ho4) | ((with_reducible refine gate_dst (N := 5) rfl ?_); refine box_event ?hg (N := 5) ?hd (cs := #[.int .i64 0, .string (⟨#[]⟩ : ByteArray), .int .i64 0, .int .i64 0]) (t := 30) ?hr ?_; (case hd => rfl); (case hg => rfl); (case hr => first | (go_simp; done) | (go_simp; rfl)); intro gb253 hg w5 hbox hb; have n0_ := Aside0.mk (Kd.R_below (Kd.R_elderB (carR HO252.out) gb253 (Nat.le_of_eq hg.symm)) hb); have n1_ := Aside0.mk (below_step (carH HB.out) hb); have n2_ := Aside0.mk (hbox); have n3_ := Aside0.mk ((by rw [hg]; exact (below_size (carH HB.out)) : w.heap.size ≤ gb253)); have n4_ := Aside0.mk ((by rw [hg]; exact (below_size (carH HB.out)) : w.heap.size ≤ gb253)); clear HO252; clear HB; have HO252 := n0_; have HB := n1_; have BK253 := n2_; have GW253 := n3_; have GE253 := n4_; clear n0_ n1_ n2_ n3_ n4_; clear hb hbox hg; have hcz6_0 : w5.cell? ⟨gb253, 0, none⟩ = some (.int .i64 0) := (blk_cell BK253.out 0).trans rfl; have hcz6_1 : w5.cell? ⟨gb253, 1, none⟩ = some (.string (⟨#[]⟩ : ByteArray)) := (blk_cell BK253.out 1).trans rfl; have hcz6_2 : w5.cell? ⟨gb253, 2, none⟩ = some (.int .i64 0) := (blk_cell BK253.out 2).trans rfl; have hcz6_3 : w5.cell? ⟨gb253, 3, none⟩ = some (.int .i64 0) := (blk_cell BK253.out 3).trans rfl; have hfz6_0 := blk_frozen BK253.out 0; have hfz6_1 := blk_frozen BK253.out 1; have hfz6_2 := blk_frozen BK253.out 2; have hfz6_3 := blk_frozen BK253.out 3))
  go_loopg [4, 6] k (fun kq v4 v6 w' => ∃ (x4_1 : List (S30)) (x6_1 : Int) (x254000_1 : Int) (x254001_1 : ByteArray) (x254002_1 : Int) (x254003_1 : Int), v6 = .int .i64 x6_1 ∧ Aside0 (impl_Lex.l0 kq a0 x4_1 x6_1 x254000_1 x254001_1 x254002_1 x254003_1 = some (r1, r2)) ∧ Aside0 (kq ≤ k) ∧ Aside0 (Kd.R k30 30 w' w.heap.size (fun k_ => k_ ≠ gb253) v4 x4_1) ∧ Aside0 (w'.heap[gb253]? = some (.cells #[.int .i64 x254000_1, .string x254001_1, .int .i64 x254002_1, .int .i64 x254003_1] 30 (0, 0))) ∧ Aside0 (Below w.heap.size w w'))
  case atStart => exact ⟨(y250), (0), (0), ((⟨#[]⟩ : ByteArray)), (0), (0), argK, H', ⟨Nat.le_refl _⟩, ⟨by (with_reducible repeat (first | apply Kd.R_alloc | apply Kd.R_drewN | apply Kd.R_drew)); exact Kd.R_mono (Kd.R_far (p := ⟨gb253, 3, none⟩) (Kd.R_far (p := ⟨gb253, 2, none⟩) (Kd.R_far (p := ⟨gb253, 1, none⟩) (Kd.R_far (p := ⟨gb253, 0, none⟩) (Kd.R_mono HO252.out (fun k_ hk => (⟨hk, by first | exact hk.2 | exact hk⟩ : _ ∧ k_ ≠ gb253))) (fun _ hk => hk.2) (.int .i64 0)) (fun _ hk => hk.2) (.string (⟨#[]⟩ : ByteArray))) (fun _ hk => hk.2) (.int .i64 0)) (fun _ hk => hk.2) (.int .i64 0)) (fun _ hk => by first | exact hk.1.2 | exact hk.1 | exact hk.2)⟩, ⟨by (with_reducible repeat (first | refine blk_drewN ?_ _ | refine blk_drew ?_ | refine blk_alloc ?_ _)); refine blk_put (cs := #[.int .i64 0, .string (⟨#[]⟩ : ByteArray), .int .i64 0, .int .i64 0]) ?_ 3 _ rfl; (with_reducible repeat (first | refine blk_drewN ?_ _ | refine blk_drew ?_ | refine blk_alloc ?_ _)); refine blk_put (cs := #[.int .i64 0, .string (⟨#[]⟩ : ByteArray), .int .i64 0, .int .i64 0]) ?_ 2 _ rfl; (with_reducible repeat (first | refine blk_drewN ?_ _ | refine blk_drew ?_ | refine blk_alloc ?_ _)); refine blk_put (cs := #[.int .i64 0, .string (⟨#[]⟩ : ByteArray), .int .i64 0, .int .i64 0]) ?_ 1 _ rfl; (with_reducible repeat (first | refine blk_drewN ?_ _ | refine blk_drew ?_ | refine blk_alloc ?_ _)); refine blk_put (cs := #[.int .i64 0, .string (⟨#[]⟩ : ByteArray), .int .i64 0, .int .i64 0]) ?_ 0 _ rfl; (with_reducible repeat (first | refine blk_drewN ?_ _ | refine blk_drew ?_ | refine blk_alloc ?_ _)); exact BK253.out⟩, ⟨carH HB.out⟩⟩
  case round =>
   clear H'
   try clear c2
   try clear c2b0
   try clear c2b1
   try clear p2
   try clear c5
   try clear hcz6_0
   try clear hcz6_1
   try clear hcz6_2
   try clear hcz6_3
   try clear hfz6_0
   try clear hfz6_1
   try clear hfz6_2
   try clear hfz6_3
   obtain ⟨x4_1, x6_1, x254000_1, x254001_1, x254002_1, x254003_1, rfl, HA, HK1, HO_4, BK253, HB⟩ := hrel
   cases gk with
   | zero => exact absurd HA.out (by simp [impl_Lex.l0])
   | succ k1 =>
    have H := HA.out
    clear HA
    simp only [impl_Lex.l0] at H
    by_cases c7 : x6_1 < (a0.size : Int)
    ·
     rw [if_pos c7] at H
     have c7b0 : decide (x6_1 < (a0.size : Int)) = true := decide_eq_true c7
     clear c7
     by_cases c8 : 0 ≤ x6_1
     ·
      rw [if_pos c8] at H
      have c8b0 : decide (0 ≤ x6_1) = true := decide_eq_true c8
      clear c8
      replace H := Option.bind_eq_some_iff.mp H
      obtain ⟨t254, A100, H⟩ := H
      replace H : (if t254 = true then (impl_Lex.l0 k1 a0 x4_1 (wrap64 (x6_1 + 1)) x254000_1 x254001_1 x254002_1 x254003_1) else (if (bt a0 x6_1) = 35 then ((impl_run_Lex_1.f k1 a0 x6_1).bind fun t255 => (impl_Lex.l0 k1 a0 x4_1 (wrap64 (x6_1 + t255)) x254000_1 x254001_1 x254002_1 x254003_1)) else (if x6_1 ≤ (a0.size : Int) then ((impl_lexOne.f k1 (a0.extract (x6_1 : Int).toNat a0.size) x254000_1 x254001_1 x254002_1 x254003_1).bind fun bt256 => (if bt256.2.2.2.2 = 0 then (some (([] : List (S30)), x6_1)) else (if x4_1.length < 3518437208883 then (impl_Lex.l0 k1 a0 (x4_1 ++ [(⟨bt256.1, bt256.2.1, bt256.2.2.1, x6_1⟩ : S30)]) (wrap64 (x6_1 + bt256.2.2.2.2)) bt256.1 bt256.2.1 bt256.2.2.1 x6_1) else (none)))) else (none)))) = some (r1, r2) := H
      have A10 := Aside0.mk A100
      clear A100
      by_cases c11 : t254 = true
      ·
       subst c11
       have H1 : (impl_Lex.l0 k1 a0 x4_1 (wrap64 (x6_1 + 1)) x254000_1 x254001_1 x254002_1 x254003_1) = some (r1, r2) := by rw [if_pos rfl] at H; exact H
       clear H
       have H := H1
       clear H1
       have H' := Aside0.mk H
       clear H
       have p9 : 0 ≤ (x6_1 : Int) := dA
       have q9 : x6_1 < (a0.size : Int) := dA
       have hx9 := bt_at a0 x6_1
       replace p9 := eq_true p9
       replace q9 := eq_true q9
       go_wp2_with (first | ((with_reducible refine gate_callee (f := 18) rfl ?_); refine goesL_ (some 22) rfl rfl Tryd.func18 (by kernel_rfl) rfl #[.int .u8 (bt a0 x6_1)] rfl mapK ?_; (with_reducible refine (impl_isSpace.calls (bt a0 x6_1) true _ A10.out).mono ?_); rintro e w' ⟨rfl, ⟨nd, rfl⟩⟩; refine ⟨_, rfl, ?_⟩))
       go_roundg k1
       case measure => have := HK1.out; omega
       case rel => exact ⟨(x4_1), (wrap64 (x6_1 + 1)), (x254000_1), (x254001_1), (x254002_1), (x254003_1), argK, H', ⟨by have := HK1.out; omega⟩, ⟨carR HO_4.out⟩, ⟨by (with_reducible repeat (first | refine blk_drewN ?_ _ | refine blk_drew ?_ | refine blk_alloc ?_ _)); exact BK253.out⟩, ⟨carH HB.out⟩⟩
      ·
       replace c11 := Bool.eq_false_iff.mpr c11
       subst c11
       have H1 : (if (bt a0 x6_1) = 35 then ((impl_run_Lex_1.f k1 a0 x6_1).bind fun t255 => (impl_Lex.l0 k1 a0 x4_1 (wrap64 (x6_1 + t255)) x254000_1 x254001_1 x254002_1 x254003_1)) else (if x6_1 ≤ (a0.size : Int) then ((impl_lexOne.f k1 (a0.extract (x6_1 : Int).toNat a0.size) x254000_1 x254001_1 x254002_1 x254003_1).bind fun bt256 => (if bt256.2.2.2.2 = 0 then (some (([] : List (S30)), x6_1)) else (if x4_1.length < 3518437208883 then (impl_Lex.l0 k1 a0 (x4_1 ++ [(⟨bt256.1, bt256.2.1, bt256.2.2.1, x6_1⟩ : S30)]) (wrap64 (x6_1 + bt256.2.2.2.2)) bt256.1 bt256.2.1 bt256.2.2.1 x6_1) else (none)))) else (none))) = some (r1, r2) := by rw [if_neg (show ¬ (false = true) by decide)] at H; exact H
       clear H
       have H := H1
       clear H1
       by_cases c13 : (bt a0 x6_1) = 35
       ·
        rw [if_pos c13] at H
        have c13b0 : ((bt a0 x6_1) == 35) = true := beq_iff_eq.mpr c13
        have c13b1 : ((bt a0 x6_1) != 35) = false := bne_eq_false_iff_eq.mpr c13
        clear c13
        replace H := Option.bind_eq_some_iff.mp H
        obtain ⟨t255, A140, H⟩ := H
        replace H : (impl_Lex.l0 k1 a0 x4_1 (wrap64 (x6_1 + t255)) x254000_1 x254001_1 x254002_1 x254003_1) = some (r1, r2) := H
        have A14 := Aside0.mk A140
        clear A140
        have H' := Aside0.mk H
        clear H
        have p9 : 0 ≤ (x6_1 : Int) := dA
        have q9 : x6_1 < (a0.size : Int) := dA
        have hx9 := bt_at a0 x6_1
        replace p9 := eq_true p9
        replace q9 := eq_true q9
        go_wp2_with (first | ((with_reducible refine gate_callee (f := 18) rfl ?_); refine goesL_ (some 22) rfl rfl Tryd.func18 (by kernel_rfl) rfl #[.int .u8 (bt a0 x6_1)] rfl mapK ?_; (with_reducible refine (impl_isSpace.calls (bt a0 x6_1) false _ A10.out).mono ?_); rintro e w' ⟨rfl, ⟨nd, rfl⟩⟩; refine ⟨_, rfl, ?_⟩; have p12 : 0 ≤ (x6_1 : Int) := dA; have q12 : x6_1 < (a0.size : Int) := dA; have hx12 := bt_at a0 x6_1; replace p12 := eq_true p12; replace q12 := eq_true q12) | ((with_reducible refine gate_callee (f := 19) rfl ?_); refine goesL_ (some 33) rfl rfl Tryd.func19 (by kernel_rfl) rfl #[.string a0, .int .i64 x6_1, (.func (.func 20) #[] #[])] rfl mapK ?_; (with_reducible refine (impl_run_Lex_1.calls k1 a0 x6_1  t255 _ A14.out).mono ?_); rintro e w' ⟨rfl, ⟨nd, rfl⟩⟩; refine ⟨_, rfl, ?_⟩))
        go_roundg k1
        case measure => have := HK1.out; omega
        case rel => exact ⟨(x4_1), (wrap64 (x6_1 + t255)), (x254000_1), (x254001_1), (x254002_1), (x254003_1), argK, H', ⟨by have := HK1.out; omega⟩, ⟨carR HO_4.out⟩, ⟨by (with_reducible repeat (first | refine blk_drewN ?_ _ | refine blk_drew ?_ | refine blk_alloc ?_ _)); exact BK253.out⟩, ⟨carH HB.out⟩⟩
       ·
        rw [if_neg c13] at H
        have c13b0 : ((bt a0 x6_1) == 35) = false := beq_eq_false_iff_ne.mpr c13
        have c13b1 : ((bt a0 x6_1) != 35) = true := bne_iff_ne.mpr c13
        have c15b0 := eq_true (dA : 0 ≤ x6_1)
        by_cases c16 : x6_1 ≤ (a0.size : Int)
        ·
         rw [if_pos c16] at H
         have c16b0 := eq_true c16
         have c16b1 : decide (x6_1 ≤ (a0.size : Int)) = true := decide_eq_true c16
         clear c16
         replace H := Option.bind_eq_some_iff.mp H
         obtain ⟨⟨t256, t257, t258, t259, t260⟩, A170, H⟩ := H
         replace H : (if t260 = 0 then (some (([] : List (S30)), x6_1)) else (if x4_1.length < 3518437208883 then (impl_Lex.l0 k1 a0 (x4_1 ++ [(⟨t256, t257, t258, x6_1⟩ : S30)]) (wrap64 (x6_1 + t260)) t256 t257 t258 x6_1) else (none))) = some (r1, r2) := H
         have A17 := Aside0.mk A170
         clear A170
         by_cases c18 : t260 = 0
         ·
          rw [if_pos c18] at H
          have c18b0 : (t260 == 0) = true := beq_iff_eq.mpr c18
          have c18b1 : (t260 != 0) = false := bne_eq_false_iff_eq.mpr c18
          clear c18
          simp only [Option.some.injEq, Prod.mk.injEq] at H
          obtain ⟨rfl, rfl⟩ := H
          have p9 : 0 ≤ (x6_1 : Int) := dA
          have q9 : x6_1 < (a0.size : Int) := dA
          have hx9 := bt_at a0 x6_1
          replace p9 := eq_true p9
          replace q9 := eq_true q9
          try go_wp2_with (first | ((with_reducible refine gate_callee (f := 18) rfl ?_); refine goesL_ (some 22) rfl rfl Tryd.func18 (by kernel_rfl) rfl #[.int .u8 (bt a0 x6_1)] rfl mapK ?_; (with_reducible refine (impl_isSpace.calls (bt a0 x6_1) false _ A10.out).mono ?_); rintro e w' ⟨rfl, ⟨nd, rfl⟩⟩; refine ⟨_, rfl, ?_⟩; (try (rw [drewN_self wr]; generalize hq_ : World.drewN wr _ = wr; have n0_ : Aside0 (Kd.R k30 30 wr w.heap.size (fun k_ => k_ ≠ gb253) u4 x4_1) := ⟨by rw [← hq_]; exact (carR HO_4.out)⟩; have n1_ : Aside0 (wr.heap[gb253]? = some (.cells #[.int .i64 x254000_1, .string x254001_1, .int .i64 x254002_1, .int .i64 x254003_1] 30 (0, 0))) := ⟨by rw [← hq_]; exact (carB BK253.out)⟩; have n2_ : Aside0 (Below w.heap.size w wr) := ⟨by rw [← hq_]; exact (carH HB.out)⟩; clear HO_4 BK253 HB hq_; have HO_4 := n0_; have BK253 := n1_; have HB := n2_; clear n0_ n1_ n2_)); have p12 : 0 ≤ (x6_1 : Int) := dA; have q12 : x6_1 < (a0.size : Int) := dA; have hx12 := bt_at a0 x6_1; replace p12 := eq_true p12; replace q12 := eq_true q12))
          have n0_ := Aside0.mk (Kd.R_drew HO_4.out)
          have n1_ := Aside0.mk (blk_drew BK253.out)
          have n2_ := Aside0.mk (below_drew1 HB.out)
          clear HO_4
          clear BK253
          clear HB
          have HO_4 := n0_
          have BK253 := n1_
          have HB := n2_
          clear n0_ n1_ n2_
          refine start_ (n := 11) (S := fun w' => w'.cell? ⟨gb253, 0, none⟩ = some (.int .i64 x254000_1) ∧ w'.cell? ⟨gb253, 1, none⟩ = some (.string x254001_1) ∧ w'.cell? ⟨gb253, 2, none⟩ = some (.int .i64 x254002_1) ∧ w'.cell? ⟨gb253, 3, none⟩ = some (.int .i64 x254003_1)) (ds := []) #[false, false, false, false, false, false, false, false, false, false, false] (by kernel_rfl) rfl rfl ⟨(blk_cell BK253.out 0).trans rfl, (blk_cell BK253.out 1).trans rfl, (blk_cell BK253.out 2).trans rfl, (blk_cell BK253.out 3).trans rfl⟩ (fun hHeld => ?_); refine with_tabW impl_Lex.tab10 impl_Lex.bits10 (fun HT_ HW_ => ?_)
          generalize wr.drew = w19 at HO_4 BK253 HB hHeld ⊢
          refine pure_ (i := 0) (N := some 36) (v := ?_) (a' := ?_) #[true, false, false, false, false, false, false, false, false, false, false] rfl rfl (any_of HT_.out (by kernel_rfl)) (fun _ _ _ h => h) (Or.inl ⟨by rfl, ?_⟩) ?_ ?_
          rotate_left
          ·
           intro w'
           go_simp
           with_reducible rfl
          rotate_left
          ·
           simp only [Act.put, List.setIfInBounds_toArray, List.set_cons_zero, List.set_cons_succ, i64_w, i32_w]
           rfl
          refine pure_ (i := 1) (N := some 37) (v := ?_) (a' := ?_) #[true, true, false, false, false, false, false, false, false, false, false] rfl rfl (any_of HT_.out (by kernel_rfl)) (fun _ _ _ h => h) (Or.inl ⟨by rfl, ?_⟩) ?_ ?_
          rotate_left
          ·
           intro w'
           go_simp
           with_reducible rfl
          rotate_left
          ·
           simp only [Act.put, List.setIfInBounds_toArray, List.set_cons_zero, List.set_cons_succ, i64_w, i32_w]
           rfl
          refine pure_ (i := 2) (N := some 38) (v := ?_) (a' := ?_) #[true, true, true, false, false, false, false, false, false, false, false] rfl rfl (any_of HT_.out (by kernel_rfl)) (fun _ _ _ h => h) (Or.inl ⟨by rfl, ?_⟩) ?_ ?_
          rotate_left
          ·
           intro w'
           go_simp
           with_reducible rfl
          rotate_left
          ·
           simp only [Act.put, List.setIfInBounds_toArray, List.set_cons_zero, List.set_cons_succ, i64_w, i32_w]
           rfl
          refine take_ (i := 3) (N := some 39) (v := ?_) (a' := ?_) #[true, true, true, true, false, false, false, false, false, false, false] rfl rfl (take_ofW HT_.out HW_.out (by kernel_rfl)) (fun _ _ _ h => h) (Or.inl ⟨by rfl, ?_⟩) hHeld ?_ ?_
          rotate_left
          ·
           rintro w' ⟨s0, s1, s2, s3⟩
           go_simp
           with_reducible rfl
          rotate_left
          ·
           simp only [Act.put, List.setIfInBounds_toArray, List.set_cons_zero, List.set_cons_succ, i64_w, i32_w]
           rfl
          refine join_ (σ := Nat) 2 #[true, true, true, true, true, true, true, true, true, false, false] (fun s_ => [(40, .tuple #[.agg #[.int .i64 t256, .string t257, .int .i64 t258, .int .i64 t259], .int .i64 t260]), (7, .pointer (some ⟨s_, 0, none⟩)), (35, .tuple #[.agg #[.int .i64 t256, .string t257, .int .i64 t258, .int .i64 t259], .int .i64 t260]), (41, .agg #[.int .i64 t256, .string t257, .int .i64 t258, .int .i64 t259]), (42, .int .i64 t260)]) (fun s_ w' => (w'.cell? ⟨gb253, 0, none⟩ = some (.int .i64 x254000_1) ∧ w'.cell? ⟨gb253, 1, none⟩ = some (.string x254001_1) ∧ w'.cell? ⟨gb253, 2, none⟩ = some (.int .i64 x254002_1) ∧ w'.cell? ⟨gb253, 3, none⟩ = some (.int .i64 x254003_1)) ∧ (Kd.R k30 30 w' w.heap.size (fun k_ => k_ ≠ gb253 ∧ k_ ≠ s_) u4 x4_1) ∧ (w'.heap[gb253]? = some (.cells #[.int .i64 x254000_1, .string x254001_1, .int .i64 x254002_1, .int .i64 x254003_1] 30 (0, 0))) ∧ (w'.heap[s_]? = some (.cells #[.int .i64 0, .string (⟨#[]⟩ : ByteArray), .int .i64 0, .int .i64 0] 30 (0, 0))) ∧ (w.heap.size ≤ s_) ∧ (w.heap.size ≤ s_) ∧ (gb253 ≠ s_) ∧ (s_ ≠ gb253) ∧ (Below w.heap.size w w')) ?_ ?_
          rotate_left
          ·
           intro hCont
           refine two_ (i := 4) (j := 8) (Ni := some 40) (Nj := some 7) #[true, true, true, true, true, false, false, false, false, false, false] #[true, true, true, true, false, false, false, false, true, false, false] rfl rfl rfl rfl (two_of HT_.out (by kernel_rfl)) (by decide) (by decide) (fun K hK => ?_) (fun K hK => ?_)
           ·
            skip
            refine goes_ Tryd.func21 (by kernel_rfl) rfl #[.string (a0.extract (x6_1 : Int).toNat a0.size), .agg #[.int .i64 x254000_1, .string x254001_1, .int .i64 x254002_1, .int .i64 x254003_1]] (by rfl) rfl rfl mapK ?_
            with_reducible refine (impl_lexOne.calls k1 (a0.extract (x6_1 : Int).toNat a0.size) x254000_1 x254001_1 x254002_1 x254003_1 t256 t257 t258 t259 t260 _ ?side1 A17.out).mono ?_
            (case side1 => first | exact hL | ((repeat (first | exact hL | apply LaidW.drewN | apply LaidW.drew | apply LaidW.alloc)); done) | exact LaidW.below hL (carH HB.out))
            rintro e w20 ⟨rfl, hb⟩
            refine ⟨_, rfl, ?_⟩
            have n0_ := Aside0.mk (Kd.R_below (carR HO_4.out) hb)
            have n1_ := Aside0.mk (blk_below (g := gb253) (o := .cells #[.int .i64 x254000_1, .string x254001_1, .int .i64 x254002_1, .int .i64 x254003_1] 30 (0, 0)) (carB BK253.out) hb)
            have n2_ := Aside0.mk (below_step (carH HB.out) hb)
            clear HO_4
            clear BK253
            clear HB
            have HO_4 := n0_
            have BK253 := n1_
            have HB := n2_
            clear n0_ n1_ n2_
            (try clear hb)
            (try clear hb2)
            (try clear hk)
            (try clear hi)
            refine hK.out _ _ ⟨(blk_cell BK253.out 0).trans rfl, (blk_cell BK253.out 1).trans rfl, (blk_cell BK253.out 2).trans rfl, (blk_cell BK253.out 3).trans rfl⟩ (fun hHeld => ?_)
            clear hK K
            refine norm_ (a' := ?_) ?_ ?_
            rotate_left
            ·
             show Act.put _ (some 40) _ = _
             simp only [Act.put, List.setIfInBounds_toArray, List.set_cons_zero, List.set_cons_succ, i64_w, i32_w]
             rfl
            refine pure_ (i := 5) (N := some 35) (v := ?_) (a' := ?_) #[true, true, true, true, true, true, false, false, false, false, false] rfl rfl (any_of HT_.out (by kernel_rfl)) (fun _ _ _ h => h) (Or.inl ⟨by rfl, ?_⟩) ?_ ?_
            rotate_left
            ·
             intro w'
             go_simp
             with_reducible rfl
            rotate_left
            ·
             simp only [Act.put, List.setIfInBounds_toArray, List.set_cons_zero, List.set_cons_succ, i64_w, i32_w]
             rfl
            refine pure_ (i := 6) (N := some 41) (v := ?_) (a' := ?_) #[true, true, true, true, true, true, true, false, false, false, false] rfl rfl (any_of HT_.out (by kernel_rfl)) (fun _ _ _ h => h) (Or.inl ⟨by rfl, ?_⟩) ?_ ?_
            rotate_left
            ·
             intro w'
             go_simp
             with_reducible rfl
            rotate_left
            ·
             simp only [Act.put, List.setIfInBounds_toArray, List.set_cons_zero, List.set_cons_succ, i64_w, i32_w]
             rfl
            refine pure_ (i := 7) (N := some 42) (v := ?_) (a' := ?_) #[true, true, true, true, true, true, true, true, false, false, false] rfl rfl (any_of HT_.out (by kernel_rfl)) (fun _ _ _ h => h) (Or.inl ⟨by rfl, ?_⟩) ?_ ?_
            rotate_left
            ·
             intro w'
             go_simp
             with_reducible rfl
            rotate_left
            ·
             simp only [Act.put, List.setIfInBounds_toArray, List.set_cons_zero, List.set_cons_succ, i64_w, i32_w]
             rfl
            refine one_ (i := 8) (N := some 7) #[true, true, true, true, true, true, true, true, true, false, false] rfl rfl (one_of HT_.out (by kernel_rfl)) (by decide) (fun K hK => ?_)
            refine box_step ?hg (N := 7) ?hd (cs := #[.int .i64 0, .string (⟨#[]⟩ : ByteArray), .int .i64 0, .int .i64 0]) (t := 30) ?hr ?_; (case hd => rfl); (case hg => rfl); (case hr => first | (go_simp; done) | (go_simp; rfl))
            intro gb261 hg w21 hbox hb
            have n0_ := Aside0.mk (Kd.R_below (Kd.R_elderB (carR HO_4.out) gb261 (Nat.le_of_eq hg.symm)) hb)
            have n1_ := Aside0.mk (blk_below (g := gb253) (o := .cells #[.int .i64 x254000_1, .string x254001_1, .int .i64 x254002_1, .int .i64 x254003_1] 30 (0, 0)) (carB BK253.out) hb)
            have n2_ := Aside0.mk (below_step (carH HB.out) hb)
            have n3_ := Aside0.mk (hbox)
            have n4_ := Aside0.mk ((by rw [hg]; exact (below_size (carH HB.out)) : w.heap.size ≤ gb261))
            have n5_ := Aside0.mk ((by rw [hg]; exact (below_size (carH HB.out)) : w.heap.size ≤ gb261))
            have n6_ := Aside0.mk ((by rw [hg]; exact Nat.ne_of_lt (blk_lt (g := gb253) (o := .cells #[.int .i64 x254000_1, .string x254001_1, .int .i64 x254002_1, .int .i64 x254003_1] 30 (0, 0)) (carB BK253.out)) : gb253 ≠ gb261))
            have n7_ := Aside0.mk ((by rw [hg]; exact Nat.ne_of_gt (blk_lt (g := gb253) (o := .cells #[.int .i64 x254000_1, .string x254001_1, .int .i64 x254002_1, .int .i64 x254003_1] 30 (0, 0)) (carB BK253.out)) : gb261 ≠ gb253))
            clear HO_4
            clear BK253
            clear HB
            have HO_4 := n0_
            have BK253 := n1_
            have HB := n2_
            have BK261 := n3_
            have GW261 := n4_
            have GE261 := n5_
            have NB253_261 := n6_
            have NB261_253 := n7_
            clear n0_ n1_ n2_ n3_ n4_ n5_ n6_ n7_
            clear hb hbox hg
            refine hK.out _ _ ⟨(blk_cell BK253.out 0).trans rfl, (blk_cell BK253.out 1).trans rfl, (blk_cell BK253.out 2).trans rfl, (blk_cell BK253.out 3).trans rfl⟩ (fun hHeld => ?_)
            clear hK K
            refine norm_ (a' := ?_) ?_ ?_
            rotate_left
            ·
             show Act.put _ (some 7) _ = _
             simp only [Act.put, List.setIfInBounds_toArray, List.set_cons_zero, List.set_cons_succ, i64_w, i32_w]
             rfl
            exact norm_ (by simp only [putAll, Act.put, List.setIfInBounds_toArray, List.set_cons_zero, List.set_cons_succ]) (hCont (gb261) _ ⟨hHeld, (carR HO_4.out), (carB BK253.out), (carB BK261.out), GW261.out, GE261.out, NB253_261.out, NB261_253.out, (carH HB.out)⟩)
           ·
            skip
            refine box_step ?hg (N := 7) ?hd (cs := #[.int .i64 0, .string (⟨#[]⟩ : ByteArray), .int .i64 0, .int .i64 0]) (t := 30) ?hr ?_; (case hd => rfl); (case hg => rfl); (case hr => first | (go_simp; done) | (go_simp; rfl))
            intro gb261 hg w20 hbox hb
            have n0_ := Aside0.mk (Kd.R_below (Kd.R_elderB (carR HO_4.out) gb261 (Nat.le_of_eq hg.symm)) hb)
            have n1_ := Aside0.mk (blk_below (g := gb253) (o := .cells #[.int .i64 x254000_1, .string x254001_1, .int .i64 x254002_1, .int .i64 x254003_1] 30 (0, 0)) (carB BK253.out) hb)
            have n2_ := Aside0.mk (below_step (carH HB.out) hb)
            have n3_ := Aside0.mk (hbox)
            have n4_ := Aside0.mk ((by rw [hg]; exact (below_size (carH HB.out)) : w.heap.size ≤ gb261))
            have n5_ := Aside0.mk ((by rw [hg]; exact (below_size (carH HB.out)) : w.heap.size ≤ gb261))
            have n6_ := Aside0.mk ((by rw [hg]; exact Nat.ne_of_lt (blk_lt (g := gb253) (o := .cells #[.int .i64 x254000_1, .string x254001_1, .int .i64 x254002_1, .int .i64 x254003_1] 30 (0, 0)) (carB BK253.out)) : gb253 ≠ gb261))
            have n7_ := Aside0.mk ((by rw [hg]; exact Nat.ne_of_gt (blk_lt (g := gb253) (o := .cells #[.int .i64 x254000_1, .string x254001_1, .int .i64 x254002_1, .int .i64 x254003_1] 30 (0, 0)) (carB BK253.out)) : gb261 ≠ gb253))
            clear HO_4
            clear BK253
            clear HB
            have HO_4 := n0_
            have BK253 := n1_
            have HB := n2_
            have BK261 := n3_
            have GW261 := n4_
            have GE261 := n5_
            have NB253_261 := n6_
            have NB261_253 := n7_
            clear n0_ n1_ n2_ n3_ n4_ n5_ n6_ n7_
            clear hb hbox hg
            refine hK.out _ _ ⟨(blk_cell BK253.out 0).trans rfl, (blk_cell BK253.out 1).trans rfl, (blk_cell BK253.out 2).trans rfl, (blk_cell BK253.out 3).trans rfl⟩ (fun hHeld => ?_)
            clear hK K
            refine norm_ (a' := ?_) ?_ ?_
            rotate_left
            ·
             show Act.put _ (some 7) _ = _
             simp only [Act.put, List.setIfInBounds_toArray, List.set_cons_zero, List.set_cons_succ, i64_w, i32_w]
             rfl
            refine one_ (i := 4) (N := some 40) #[true, true, true, true, true, false, false, false, true, false, false] rfl rfl (one_of HT_.out (by kernel_rfl)) (by decide) (fun K hK => ?_)
            refine goes_ Tryd.func21 (by kernel_rfl) rfl #[.string (a0.extract (x6_1 : Int).toNat a0.size), .agg #[.int .i64 x254000_1, .string x254001_1, .int .i64 x254002_1, .int .i64 x254003_1]] (by rfl) rfl rfl mapK ?_
            with_reducible refine (impl_lexOne.calls k1 (a0.extract (x6_1 : Int).toNat a0.size) x254000_1 x254001_1 x254002_1 x254003_1 t256 t257 t258 t259 t260 _ ?side1 A17.out).mono ?_
            (case side1 => first | exact hL | ((repeat (first | exact hL | apply LaidW.drewN | apply LaidW.drew | apply LaidW.alloc)); done) | exact LaidW.below hL (carH HB.out))
            rintro e w21 ⟨rfl, hb⟩
            refine ⟨_, rfl, ?_⟩
            have n0_ := Aside0.mk (Kd.R_below (carR HO_4.out) hb)
            have n1_ := Aside0.mk (blk_below (g := gb253) (o := .cells #[.int .i64 x254000_1, .string x254001_1, .int .i64 x254002_1, .int .i64 x254003_1] 30 (0, 0)) (carB BK253.out) hb)
            have n2_ := Aside0.mk (blk_below (g := gb261) (o := .cells #[.int .i64 0, .string (⟨#[]⟩ : ByteArray), .int .i64 0, .int .i64 0] 30 (0, 0)) (carB BK261.out) hb)
            have n3_ := Aside0.mk (below_step (carH HB.out) hb)
            clear HO_4
            clear BK253
            clear BK261
            clear HB
            have HO_4 := n0_
            have BK253 := n1_
            have BK261 := n2_
            have HB := n3_
            clear n0_ n1_ n2_ n3_
            (try clear hb)
            (try clear hb2)
            (try clear hk)
            (try clear hi)
            refine hK.out _ _ ⟨(blk_cell BK253.out 0).trans rfl, (blk_cell BK253.out 1).trans rfl, (blk_cell BK253.out 2).trans rfl, (blk_cell BK253.out 3).trans rfl⟩ (fun hHeld => ?_)
            clear hK K
            refine norm_ (a' := ?_) ?_ ?_
            rotate_left
            ·
             show Act.put _ (some 40) _ = _
             simp only [Act.put, List.setIfInBounds_toArray, List.set_cons_zero, List.set_cons_succ, i64_w, i32_w]
             rfl
            refine pure_ (i := 5) (N := some 35) (v := ?_) (a' := ?_) #[true, true, true, true, true, true, false, false, true, false, false] rfl rfl (any_of HT_.out (by kernel_rfl)) (fun _ _ _ h => h) (Or.inl ⟨by rfl, ?_⟩) ?_ ?_
            rotate_left
            ·
             intro w'
             go_simp
             with_reducible rfl
            rotate_left
            ·
             simp only [Act.put, List.setIfInBounds_toArray, List.set_cons_zero, List.set_cons_succ, i64_w, i32_w]
             rfl
            refine pure_ (i := 6) (N := some 41) (v := ?_) (a' := ?_) #[true, true, true, true, true, true, true, false, true, false, false] rfl rfl (any_of HT_.out (by kernel_rfl)) (fun _ _ _ h => h) (Or.inl ⟨by rfl, ?_⟩) ?_ ?_
            rotate_left
            ·
             intro w'
             go_simp
             with_reducible rfl
            rotate_left
            ·
             simp only [Act.put, List.setIfInBounds_toArray, List.set_cons_zero, List.set_cons_succ, i64_w, i32_w]
             rfl
            refine pure_ (i := 7) (N := some 42) (v := ?_) (a' := ?_) #[true, true, true, true, true, true, true, true, true, false, false] rfl rfl (any_of HT_.out (by kernel_rfl)) (fun _ _ _ h => h) (Or.inl ⟨by rfl, ?_⟩) ?_ ?_
            rotate_left
            ·
             intro w'
             go_simp
             with_reducible rfl
            rotate_left
            ·
             simp only [Act.put, List.setIfInBounds_toArray, List.set_cons_zero, List.set_cons_succ, i64_w, i32_w]
             rfl
            exact norm_ (by simp only [putAll, Act.put, List.setIfInBounds_toArray, List.set_cons_zero, List.set_cons_succ]) (hCont (gb261) _ ⟨hHeld, (carR HO_4.out), (carB BK253.out), (carB BK261.out), GW261.out, GE261.out, NB253_261.out, NB261_253.out, (carH HB.out)⟩)
          rintro gb261 w22 ⟨hS_, h0_, h1_, h2_, h3_, h4_, h5_, h6_, h7_⟩
          have n0_ : Aside0 (Kd.R k30 30 w22 w.heap.size (fun k_ => k_ ≠ gb253 ∧ k_ ≠ gb261) u4 x4_1) := ⟨h0_⟩
          have n1_ : Aside0 (w22.heap[gb253]? = some (.cells #[.int .i64 x254000_1, .string x254001_1, .int .i64 x254002_1, .int .i64 x254003_1] 30 (0, 0))) := ⟨h1_⟩
          have n2_ : Aside0 (w22.heap[gb261]? = some (.cells #[.int .i64 0, .string (⟨#[]⟩ : ByteArray), .int .i64 0, .int .i64 0] 30 (0, 0))) := ⟨h2_⟩
          have n3_ : Aside0 (w.heap.size ≤ gb261) := ⟨h3_⟩
          have n4_ : Aside0 (w.heap.size ≤ gb261) := ⟨h4_⟩
          have n5_ : Aside0 (gb253 ≠ gb261) := ⟨h5_⟩
          have n6_ : Aside0 (gb261 ≠ gb253) := ⟨h6_⟩
          have n7_ : Aside0 (Below w.heap.size w w22) := ⟨h7_⟩
          clear HO_4
          clear BK253
          clear HB
          clear h0_ h1_ h2_ h3_ h4_ h5_ h6_ h7_
          have HO_4 := n0_
          have BK253 := n1_
          have BK261 := n2_
          have GW261 := n3_
          have GE261 := n4_
          have NB253_261 := n5_
          have NB261_253 := n6_
          have HB := n7_
          clear n0_ n1_ n2_ n3_ n4_ n5_ n6_ n7_
          have hHeld : w22.cell? ⟨gb253, 0, none⟩ = some (.int .i64 x254000_1) ∧ w22.cell? ⟨gb253, 1, none⟩ = some (.string x254001_1) ∧ w22.cell? ⟨gb253, 2, none⟩ = some (.int .i64 x254002_1) ∧ w22.cell? ⟨gb253, 3, none⟩ = some (.int .i64 x254003_1) := hS_
          refine norm_ (a' := ?_) ?_ ?_
          rotate_left
          ·
           simp only [putAll, Act.put, List.setIfInBounds_toArray, List.set_cons_zero, List.set_cons_succ]
           rfl
          refine one_ (i := 9) (N := none) #[true, true, true, true, true, true, true, true, true, true, false] rfl rfl (one_of HT_.out (by kernel_rfl)) (by decide) (fun K hK => ?_)
          have hs23 : w22.cell? ⟨gb261, 0, none⟩ = some (.int .i64 0) := (blk_cell BK261.out 0).trans rfl
          have hfs23 := blk_frozen BK261.out 0
          have hns23_0 := NB253_261.out
          have hms23_0 := NB261_253.out
          have hs24 : w22.cell? ⟨gb261, 1, none⟩ = some (.string (⟨#[]⟩ : ByteArray)) := (blk_cell BK261.out 1).trans rfl
          have hfs24 := blk_frozen BK261.out 1
          have hns24_0 := NB253_261.out
          have hms24_0 := NB261_253.out
          have hs25 : w22.cell? ⟨gb261, 2, none⟩ = some (.int .i64 0) := (blk_cell BK261.out 2).trans rfl
          have hfs25 := blk_frozen BK261.out 2
          have hns25_0 := NB253_261.out
          have hms25_0 := NB261_253.out
          have hs26 : w22.cell? ⟨gb261, 3, none⟩ = some (.int .i64 0) := (blk_cell BK261.out 3).trans rfl
          have hfs26 := blk_frozen BK261.out 3
          have hns26_0 := NB253_261.out
          have hms26_0 := NB261_253.out
          refine skip_ (w1 := ?_) (by rfl) rfl ?_ ?_
          rotate_left
          ·
           go_simp
           rfl
          refine hK.out _ _ ⟨((cell_far (p := ⟨gb261, _, none⟩) NB253_261.out _).trans (((cell_far (p := ⟨gb261, _, none⟩) NB253_261.out _).trans (((cell_far (p := ⟨gb261, _, none⟩) NB253_261.out _).trans (((cell_far (p := ⟨gb261, _, none⟩) NB253_261.out _).trans (hHeld.1)))))))), ((cell_far (p := ⟨gb261, _, none⟩) NB253_261.out _).trans (((cell_far (p := ⟨gb261, _, none⟩) NB253_261.out _).trans (((cell_far (p := ⟨gb261, _, none⟩) NB253_261.out _).trans (((cell_far (p := ⟨gb261, _, none⟩) NB253_261.out _).trans (hHeld.2.1)))))))), ((cell_far (p := ⟨gb261, _, none⟩) NB253_261.out _).trans (((cell_far (p := ⟨gb261, _, none⟩) NB253_261.out _).trans (((cell_far (p := ⟨gb261, _, none⟩) NB253_261.out _).trans (((cell_far (p := ⟨gb261, _, none⟩) NB253_261.out _).trans (hHeld.2.2.1)))))))), ((cell_far (p := ⟨gb261, _, none⟩) NB253_261.out _).trans (((cell_far (p := ⟨gb261, _, none⟩) NB253_261.out _).trans (((cell_far (p := ⟨gb261, _, none⟩) NB253_261.out _).trans (((cell_far (p := ⟨gb261, _, none⟩) NB253_261.out _).trans (hHeld.2.2.2))))))))⟩ (fun hHeld => ?_)
          clear hK K
          refine pure_ (i := 10) (N := some 8) (v := ?_) (a' := ?_) #[true, true, true, true, true, true, true, true, true, true, true] rfl rfl (any_of HT_.out (by kernel_rfl)) (fun _ _ _ h => h) (Or.inl ⟨by rfl, ?_⟩) ?_ ?_
          rotate_left
          ·
           intro w'
           go_simp
           with_reducible rfl
          rotate_left
          ·
           simp only [Act.put, List.setIfInBounds_toArray, List.set_cons_zero, List.set_cons_succ, i64_w, i32_w]
           rfl
          refine done_ (done_of HT_.out (by kernel_rfl)) ?_
          try go_wp2
          go_ret2
          exact ⟨_, retK, by first | exact Kd.R_nil _ _ _ _ _ | exact Kd.N_nil _ _ _ _ _ | exact Kd.V_nil _ _ _ _ _ | exact Kd.Q_nil _ _ _ _ _ | exact Kd.S_nil _ _ _ _ _, carH HB.out⟩
         ·
          rw [if_neg c18] at H
          have c18b0 : (t260 == 0) = false := beq_eq_false_iff_ne.mpr c18
          have c18b1 : (t260 != 0) = true := bne_iff_ne.mpr c18
          by_cases c27 : x4_1.length < 3518437208883
          ·
           rw [if_pos c27] at H
           have LMc27 := Aside0.mk c27
           clear c27
           obtain ⟨y262, hy262⟩ : ∃ y_ : List (S30), y_ = (x4_1 ++ [(⟨t256, t257, t258, x6_1⟩ : S30)]) := ⟨_, rfl⟩
           replace H : (impl_Lex.l0 k1 a0 y262 (wrap64 (x6_1 + t260)) t256 t257 t258 x6_1) = some (r1, r2) := by first | (rw [hy262]; with_reducible exact H) | (have H2_ := (Option.bind_some _ _).symm.trans H; rw [hy262]; with_reducible exact H2_) | (have H2_ := (Option.bind_some _ _).symm.trans H; with_reducible exact H2_) | with_reducible exact H | (rw [hy262]; exact H) | exact H
           have Ny262 := Aside0.mk hy262
           clear hy262
           have H' := Aside0.mk H
           clear H
           have p9 : 0 ≤ (x6_1 : Int) := dA
           have q9 : x6_1 < (a0.size : Int) := dA
           have hx9 := bt_at a0 x6_1
           replace p9 := eq_true p9
           replace q9 := eq_true q9
           try go_wp2_with (first | ((with_reducible refine gate_callee (f := 18) rfl ?_); refine goesL_ (some 22) rfl rfl Tryd.func18 (by kernel_rfl) rfl #[.int .u8 (bt a0 x6_1)] rfl mapK ?_; (with_reducible refine (impl_isSpace.calls (bt a0 x6_1) false _ A10.out).mono ?_); rintro e w' ⟨rfl, ⟨nd, rfl⟩⟩; refine ⟨_, rfl, ?_⟩; (try (rw [drewN_self wr]; generalize hq_ : World.drewN wr _ = wr; have n0_ : Aside0 (Kd.R k30 30 wr w.heap.size (fun k_ => k_ ≠ gb253) u4 x4_1) := ⟨by rw [← hq_]; exact (carR HO_4.out)⟩; have n1_ : Aside0 (wr.heap[gb253]? = some (.cells #[.int .i64 x254000_1, .string x254001_1, .int .i64 x254002_1, .int .i64 x254003_1] 30 (0, 0))) := ⟨by rw [← hq_]; exact (carB BK253.out)⟩; have n2_ : Aside0 (Below w.heap.size w wr) := ⟨by rw [← hq_]; exact (carH HB.out)⟩; clear HO_4 BK253 HB hq_; have HO_4 := n0_; have BK253 := n1_; have HB := n2_; clear n0_ n1_ n2_)); have p12 : 0 ≤ (x6_1 : Int) := dA; have q12 : x6_1 < (a0.size : Int) := dA; have hx12 := bt_at a0 x6_1; replace p12 := eq_true p12; replace q12 := eq_true q12))
           have n0_ := Aside0.mk (Kd.R_drew HO_4.out)
           have n1_ := Aside0.mk (blk_drew BK253.out)
           have n2_ := Aside0.mk (below_drew1 HB.out)
           clear HO_4
           clear BK253
           clear HB
           have HO_4 := n0_
           have BK253 := n1_
           have HB := n2_
           clear n0_ n1_ n2_
           refine start_ (n := 11) (S := fun w' => w'.cell? ⟨gb253, 0, none⟩ = some (.int .i64 x254000_1) ∧ w'.cell? ⟨gb253, 1, none⟩ = some (.string x254001_1) ∧ w'.cell? ⟨gb253, 2, none⟩ = some (.int .i64 x254002_1) ∧ w'.cell? ⟨gb253, 3, none⟩ = some (.int .i64 x254003_1)) (ds := []) #[false, false, false, false, false, false, false, false, false, false, false] (by kernel_rfl) rfl rfl ⟨(blk_cell BK253.out 0).trans rfl, (blk_cell BK253.out 1).trans rfl, (blk_cell BK253.out 2).trans rfl, (blk_cell BK253.out 3).trans rfl⟩ (fun hHeld => ?_); refine with_tabW impl_Lex.tab10 impl_Lex.bits10 (fun HT_ HW_ => ?_)
           generalize wr.drew = w28 at HO_4 BK253 HB hHeld ⊢
           refine pure_ (i := 0) (N := some 36) (v := ?_) (a' := ?_) #[true, false, false, false, false, false, false, false, false, false, false] rfl rfl (any_of HT_.out (by kernel_rfl)) (fun _ _ _ h => h) (Or.inl ⟨by rfl, ?_⟩) ?_ ?_
           rotate_left
           ·
            intro w'
            go_simp
            with_reducible rfl
           rotate_left
           ·
            simp only [Act.put, List.setIfInBounds_toArray, List.set_cons_zero, List.set_cons_succ, i64_w, i32_w]
            rfl
           refine pure_ (i := 1) (N := some 37) (v := ?_) (a' := ?_) #[true, true, false, false, false, false, false, false, false, false, false] rfl rfl (any_of HT_.out (by kernel_rfl)) (fun _ _ _ h => h) (Or.inl ⟨by rfl, ?_⟩) ?_ ?_
           rotate_left
           ·
            intro w'
            go_simp
            with_reducible rfl
           rotate_left
           ·
            simp only [Act.put, List.setIfInBounds_toArray, List.set_cons_zero, List.set_cons_succ, i64_w, i32_w]
            rfl
           refine pure_ (i := 2) (N := some 38) (v := ?_) (a' := ?_) #[true, true, true, false, false, false, false, false, false, false, false] rfl rfl (any_of HT_.out (by kernel_rfl)) (fun _ _ _ h => h) (Or.inl ⟨by rfl, ?_⟩) ?_ ?_
           rotate_left
           ·
            intro w'
            go_simp
            with_reducible rfl
           rotate_left
           ·
            simp only [Act.put, List.setIfInBounds_toArray, List.set_cons_zero, List.set_cons_succ, i64_w, i32_w]
            rfl
           refine take_ (i := 3) (N := some 39) (v := ?_) (a' := ?_) #[true, true, true, true, false, false, false, false, false, false, false] rfl rfl (take_ofW HT_.out HW_.out (by kernel_rfl)) (fun _ _ _ h => h) (Or.inl ⟨by rfl, ?_⟩) hHeld ?_ ?_
           rotate_left
           ·
            rintro w' ⟨s0, s1, s2, s3⟩
            go_simp
            with_reducible rfl
           rotate_left
           ·
            simp only [Act.put, List.setIfInBounds_toArray, List.set_cons_zero, List.set_cons_succ, i64_w, i32_w]
            rfl
           refine join_ (σ := Nat) 2 #[true, true, true, true, true, true, true, true, true, false, false] (fun s_ => [(40, .tuple #[.agg #[.int .i64 t256, .string t257, .int .i64 t258, .int .i64 t259], .int .i64 t260]), (7, .pointer (some ⟨s_, 0, none⟩)), (35, .tuple #[.agg #[.int .i64 t256, .string t257, .int .i64 t258, .int .i64 t259], .int .i64 t260]), (41, .agg #[.int .i64 t256, .string t257, .int .i64 t258, .int .i64 t259]), (42, .int .i64 t260)]) (fun s_ w' => (w'.cell? ⟨gb253, 0, none⟩ = some (.int .i64 x254000_1) ∧ w'.cell? ⟨gb253, 1, none⟩ = some (.string x254001_1) ∧ w'.cell? ⟨gb253, 2, none⟩ = some (.int .i64 x254002_1) ∧ w'.cell? ⟨gb253, 3, none⟩ = some (.int .i64 x254003_1)) ∧ (Kd.R k30 30 w' w.heap.size (fun k_ => k_ ≠ gb253 ∧ k_ ≠ s_) u4 x4_1) ∧ (w'.heap[gb253]? = some (.cells #[.int .i64 x254000_1, .string x254001_1, .int .i64 x254002_1, .int .i64 x254003_1] 30 (0, 0))) ∧ (w'.heap[s_]? = some (.cells #[.int .i64 0, .string (⟨#[]⟩ : ByteArray), .int .i64 0, .int .i64 0] 30 (0, 0))) ∧ (w.heap.size ≤ s_) ∧ (w.heap.size ≤ s_) ∧ (gb253 ≠ s_) ∧ (s_ ≠ gb253) ∧ (Below w.heap.size w w')) ?_ ?_
           rotate_left
           ·
            intro hCont
            refine two_ (i := 4) (j := 8) (Ni := some 40) (Nj := some 7) #[true, true, true, true, true, false, false, false, false, false, false] #[true, true, true, true, false, false, false, false, true, false, false] rfl rfl rfl rfl (two_of HT_.out (by kernel_rfl)) (by decide) (by decide) (fun K hK => ?_) (fun K hK => ?_)
            ·
             skip
             refine goes_ Tryd.func21 (by kernel_rfl) rfl #[.string (a0.extract (x6_1 : Int).toNat a0.size), .agg #[.int .i64 x254000_1, .string x254001_1, .int .i64 x254002_1, .int .i64 x254003_1]] (by rfl) rfl rfl mapK ?_
             with_reducible refine (impl_lexOne.calls k1 (a0.extract (x6_1 : Int).toNat a0.size) x254000_1 x254001_1 x254002_1 x254003_1 t256 t257 t258 t259 t260 _ ?side1 A17.out).mono ?_
             (case side1 => first | exact hL | ((repeat (first | exact hL | apply LaidW.drewN | apply LaidW.drew | apply LaidW.alloc)); done) | exact LaidW.below hL (carH HB.out))
             rintro e w29 ⟨rfl, hb⟩
             refine ⟨_, rfl, ?_⟩
             have n0_ := Aside0.mk (Kd.R_below (carR HO_4.out) hb)
             have n1_ := Aside0.mk (blk_below (g := gb253) (o := .cells #[.int .i64 x254000_1, .string x254001_1, .int .i64 x254002_1, .int .i64 x254003_1] 30 (0, 0)) (carB BK253.out) hb)
             have n2_ := Aside0.mk (below_step (carH HB.out) hb)
             clear HO_4
             clear BK253
             clear HB
             have HO_4 := n0_
             have BK253 := n1_
             have HB := n2_
             clear n0_ n1_ n2_
             (try clear hb)
             (try clear hb2)
             (try clear hk)
             (try clear hi)
             refine hK.out _ _ ⟨(blk_cell BK253.out 0).trans rfl, (blk_cell BK253.out 1).trans rfl, (blk_cell BK253.out 2).trans rfl, (blk_cell BK253.out 3).trans rfl⟩ (fun hHeld => ?_)
             clear hK K
             refine norm_ (a' := ?_) ?_ ?_
             rotate_left
             ·
              show Act.put _ (some 40) _ = _
              simp only [Act.put, List.setIfInBounds_toArray, List.set_cons_zero, List.set_cons_succ, i64_w, i32_w]
              rfl
             refine pure_ (i := 5) (N := some 35) (v := ?_) (a' := ?_) #[true, true, true, true, true, true, false, false, false, false, false] rfl rfl (any_of HT_.out (by kernel_rfl)) (fun _ _ _ h => h) (Or.inl ⟨by rfl, ?_⟩) ?_ ?_
             rotate_left
             ·
              intro w'
              go_simp
              with_reducible rfl
             rotate_left
             ·
              simp only [Act.put, List.setIfInBounds_toArray, List.set_cons_zero, List.set_cons_succ, i64_w, i32_w]
              rfl
             refine pure_ (i := 6) (N := some 41) (v := ?_) (a' := ?_) #[true, true, true, true, true, true, true, false, false, false, false] rfl rfl (any_of HT_.out (by kernel_rfl)) (fun _ _ _ h => h) (Or.inl ⟨by rfl, ?_⟩) ?_ ?_
             rotate_left
             ·
              intro w'
              go_simp
              with_reducible rfl
             rotate_left
             ·
              simp only [Act.put, List.setIfInBounds_toArray, List.set_cons_zero, List.set_cons_succ, i64_w, i32_w]
              rfl
             refine pure_ (i := 7) (N := some 42) (v := ?_) (a' := ?_) #[true, true, true, true, true, true, true, true, false, false, false] rfl rfl (any_of HT_.out (by kernel_rfl)) (fun _ _ _ h => h) (Or.inl ⟨by rfl, ?_⟩) ?_ ?_
             rotate_left
             ·
              intro w'
              go_simp
              with_reducible rfl
             rotate_left
             ·
              simp only [Act.put, List.setIfInBounds_toArray, List.set_cons_zero, List.set_cons_succ, i64_w, i32_w]
              rfl
             refine one_ (i := 8) (N := some 7) #[true, true, true, true, true, true, true, true, true, false, false] rfl rfl (one_of HT_.out (by kernel_rfl)) (by decide) (fun K hK => ?_)
             refine box_step ?hg (N := 7) ?hd (cs := #[.int .i64 0, .string (⟨#[]⟩ : ByteArray), .int .i64 0, .int .i64 0]) (t := 30) ?hr ?_; (case hd => rfl); (case hg => rfl); (case hr => first | (go_simp; done) | (go_simp; rfl))
             intro gb261 hg w30 hbox hb
             have n0_ := Aside0.mk (Kd.R_below (Kd.R_elderB (carR HO_4.out) gb261 (Nat.le_of_eq hg.symm)) hb)
             have n1_ := Aside0.mk (blk_below (g := gb253) (o := .cells #[.int .i64 x254000_1, .string x254001_1, .int .i64 x254002_1, .int .i64 x254003_1] 30 (0, 0)) (carB BK253.out) hb)
             have n2_ := Aside0.mk (below_step (carH HB.out) hb)
             have n3_ := Aside0.mk (hbox)
             have n4_ := Aside0.mk ((by rw [hg]; exact (below_size (carH HB.out)) : w.heap.size ≤ gb261))
             have n5_ := Aside0.mk ((by rw [hg]; exact (below_size (carH HB.out)) : w.heap.size ≤ gb261))
             have n6_ := Aside0.mk ((by rw [hg]; exact Nat.ne_of_lt (blk_lt (g := gb253) (o := .cells #[.int .i64 x254000_1, .string x254001_1, .int .i64 x254002_1, .int .i64 x254003_1] 30 (0, 0)) (carB BK253.out)) : gb253 ≠ gb261))
             have n7_ := Aside0.mk ((by rw [hg]; exact Nat.ne_of_gt (blk_lt (g := gb253) (o := .cells #[.int .i64 x254000_1, .string x254001_1, .int .i64 x254002_1, .int .i64 x254003_1] 30 (0, 0)) (carB BK253.out)) : gb261 ≠ gb253))
             clear HO_4
             clear BK253
             clear HB
             have HO_4 := n0_
             have BK253 := n1_
             have HB := n2_
             have BK261 := n3_
             have GW261 := n4_
             have GE261 := n5_
             have NB253_261 := n6_
             have NB261_253 := n7_
             clear n0_ n1_ n2_ n3_ n4_ n5_ n6_ n7_
             clear hb hbox hg
             refine hK.out _ _ ⟨(blk_cell BK253.out 0).trans rfl, (blk_cell BK253.out 1).trans rfl, (blk_cell BK253.out 2).trans rfl, (blk_cell BK253.out 3).trans rfl⟩ (fun hHeld => ?_)
             clear hK K
             refine norm_ (a' := ?_) ?_ ?_
             rotate_left
             ·
              show Act.put _ (some 7) _ = _
              simp only [Act.put, List.setIfInBounds_toArray, List.set_cons_zero, List.set_cons_succ, i64_w, i32_w]
              rfl
             exact norm_ (by simp only [putAll, Act.put, List.setIfInBounds_toArray, List.set_cons_zero, List.set_cons_succ]) (hCont (gb261) _ ⟨hHeld, (carR HO_4.out), (carB BK253.out), (carB BK261.out), GW261.out, GE261.out, NB253_261.out, NB261_253.out, (carH HB.out)⟩)
            ·
             skip
             refine box_step ?hg (N := 7) ?hd (cs := #[.int .i64 0, .string (⟨#[]⟩ : ByteArray), .int .i64 0, .int .i64 0]) (t := 30) ?hr ?_; (case hd => rfl); (case hg => rfl); (case hr => first | (go_simp; done) | (go_simp; rfl))
             intro gb261 hg w29 hbox hb
             have n0_ := Aside0.mk (Kd.R_below (Kd.R_elderB (carR HO_4.out) gb261 (Nat.le_of_eq hg.symm)) hb)
             have n1_ := Aside0.mk (blk_below (g := gb253) (o := .cells #[.int .i64 x254000_1, .string x254001_1, .int .i64 x254002_1, .int .i64 x254003_1] 30 (0, 0)) (carB BK253.out) hb)
             have n2_ := Aside0.mk (below_step (carH HB.out) hb)
             have n3_ := Aside0.mk (hbox)
             have n4_ := Aside0.mk ((by rw [hg]; exact (below_size (carH HB.out)) : w.heap.size ≤ gb261))
             have n5_ := Aside0.mk ((by rw [hg]; exact (below_size (carH HB.out)) : w.heap.size ≤ gb261))
             have n6_ := Aside0.mk ((by rw [hg]; exact Nat.ne_of_lt (blk_lt (g := gb253) (o := .cells #[.int .i64 x254000_1, .string x254001_1, .int .i64 x254002_1, .int .i64 x254003_1] 30 (0, 0)) (carB BK253.out)) : gb253 ≠ gb261))
             have n7_ := Aside0.mk ((by rw [hg]; exact Nat.ne_of_gt (blk_lt (g := gb253) (o := .cells #[.int .i64 x254000_1, .string x254001_1, .int .i64 x254002_1, .int .i64 x254003_1] 30 (0, 0)) (carB BK253.out)) : gb261 ≠ gb253))
             clear HO_4
             clear BK253
             clear HB
             have HO_4 := n0_
             have BK253 := n1_
             have HB := n2_
             have BK261 := n3_
             have GW261 := n4_
             have GE261 := n5_
             have NB253_261 := n6_
             have NB261_253 := n7_
             clear n0_ n1_ n2_ n3_ n4_ n5_ n6_ n7_
             clear hb hbox hg
             refine hK.out _ _ ⟨(blk_cell BK253.out 0).trans rfl, (blk_cell BK253.out 1).trans rfl, (blk_cell BK253.out 2).trans rfl, (blk_cell BK253.out 3).trans rfl⟩ (fun hHeld => ?_)
             clear hK K
             refine norm_ (a' := ?_) ?_ ?_
             rotate_left
             ·
              show Act.put _ (some 7) _ = _
              simp only [Act.put, List.setIfInBounds_toArray, List.set_cons_zero, List.set_cons_succ, i64_w, i32_w]
              rfl
             refine one_ (i := 4) (N := some 40) #[true, true, true, true, true, false, false, false, true, false, false] rfl rfl (one_of HT_.out (by kernel_rfl)) (by decide) (fun K hK => ?_)
             refine goes_ Tryd.func21 (by kernel_rfl) rfl #[.string (a0.extract (x6_1 : Int).toNat a0.size), .agg #[.int .i64 x254000_1, .string x254001_1, .int .i64 x254002_1, .int .i64 x254003_1]] (by rfl) rfl rfl mapK ?_
             with_reducible refine (impl_lexOne.calls k1 (a0.extract (x6_1 : Int).toNat a0.size) x254000_1 x254001_1 x254002_1 x254003_1 t256 t257 t258 t259 t260 _ ?side1 A17.out).mono ?_
             (case side1 => first | exact hL | ((repeat (first | exact hL | apply LaidW.drewN | apply LaidW.drew | apply LaidW.alloc)); done) | exact LaidW.below hL (carH HB.out))
             rintro e w30 ⟨rfl, hb⟩
             refine ⟨_, rfl, ?_⟩
             have n0_ := Aside0.mk (Kd.R_below (carR HO_4.out) hb)
             have n1_ := Aside0.mk (blk_below (g := gb253) (o := .cells #[.int .i64 x254000_1, .string x254001_1, .int .i64 x254002_1, .int .i64 x254003_1] 30 (0, 0)) (carB BK253.out) hb)
             have n2_ := Aside0.mk (blk_below (g := gb261) (o := .cells #[.int .i64 0, .string (⟨#[]⟩ : ByteArray), .int .i64 0, .int .i64 0] 30 (0, 0)) (carB BK261.out) hb)
             have n3_ := Aside0.mk (below_step (carH HB.out) hb)
             clear HO_4
             clear BK253
             clear BK261
             clear HB
             have HO_4 := n0_
             have BK253 := n1_
             have BK261 := n2_
             have HB := n3_
             clear n0_ n1_ n2_ n3_
             (try clear hb)
             (try clear hb2)
             (try clear hk)
             (try clear hi)
             refine hK.out _ _ ⟨(blk_cell BK253.out 0).trans rfl, (blk_cell BK253.out 1).trans rfl, (blk_cell BK253.out 2).trans rfl, (blk_cell BK253.out 3).trans rfl⟩ (fun hHeld => ?_)
             clear hK K
             refine norm_ (a' := ?_) ?_ ?_
             rotate_left
             ·
              show Act.put _ (some 40) _ = _
              simp only [Act.put, List.setIfInBounds_toArray, List.set_cons_zero, List.set_cons_succ, i64_w, i32_w]
              rfl
             refine pure_ (i := 5) (N := some 35) (v := ?_) (a' := ?_) #[true, true, true, true, true, true, false, false, true, false, false] rfl rfl (any_of HT_.out (by kernel_rfl)) (fun _ _ _ h => h) (Or.inl ⟨by rfl, ?_⟩) ?_ ?_
             rotate_left
             ·
              intro w'
              go_simp
              with_reducible rfl
             rotate_left
             ·
              simp only [Act.put, List.setIfInBounds_toArray, List.set_cons_zero, List.set_cons_succ, i64_w, i32_w]
              rfl
             refine pure_ (i := 6) (N := some 41) (v := ?_) (a' := ?_) #[true, true, true, true, true, true, true, false, true, false, false] rfl rfl (any_of HT_.out (by kernel_rfl)) (fun _ _ _ h => h) (Or.inl ⟨by rfl, ?_⟩) ?_ ?_
             rotate_left
             ·
              intro w'
              go_simp
              with_reducible rfl
             rotate_left
             ·
              simp only [Act.put, List.setIfInBounds_toArray, List.set_cons_zero, List.set_cons_succ, i64_w, i32_w]
              rfl
             refine pure_ (i := 7) (N := some 42) (v := ?_) (a' := ?_) #[true, true, true, true, true, true, true, true, true, false, false] rfl rfl (any_of HT_.out (by kernel_rfl)) (fun _ _ _ h => h) (Or.inl ⟨by rfl, ?_⟩) ?_ ?_
             rotate_left
             ·
              intro w'
              go_simp
              with_reducible rfl
             rotate_left
             ·
              simp only [Act.put, List.setIfInBounds_toArray, List.set_cons_zero, List.set_cons_succ, i64_w, i32_w]
              rfl
             exact norm_ (by simp only [putAll, Act.put, List.setIfInBounds_toArray, List.set_cons_zero, List.set_cons_succ]) (hCont (gb261) _ ⟨hHeld, (carR HO_4.out), (carB BK253.out), (carB BK261.out), GW261.out, GE261.out, NB253_261.out, NB261_253.out, (carH HB.out)⟩)
           rintro gb261 w31 ⟨hS_, h0_, h1_, h2_, h3_, h4_, h5_, h6_, h7_⟩
           have n0_ : Aside0 (Kd.R k30 30 w31 w.heap.size (fun k_ => k_ ≠ gb253 ∧ k_ ≠ gb261) u4 x4_1) := ⟨h0_⟩
           have n1_ : Aside0 (w31.heap[gb253]? = some (.cells #[.int .i64 x254000_1, .string x254001_1, .int .i64 x254002_1, .int .i64 x254003_1] 30 (0, 0))) := ⟨h1_⟩
           have n2_ : Aside0 (w31.heap[gb261]? = some (.cells #[.int .i64 0, .string (⟨#[]⟩ : ByteArray), .int .i64 0, .int .i64 0] 30 (0, 0))) := ⟨h2_⟩
           have n3_ : Aside0 (w.heap.size ≤ gb261) := ⟨h3_⟩
           have n4_ : Aside0 (w.heap.size ≤ gb261) := ⟨h4_⟩
           have n5_ : Aside0 (gb253 ≠ gb261) := ⟨h5_⟩
           have n6_ : Aside0 (gb261 ≠ gb253) := ⟨h6_⟩
           have n7_ : Aside0 (Below w.heap.size w w31) := ⟨h7_⟩
           clear HO_4
           clear BK253
           clear HB
           clear h0_ h1_ h2_ h3_ h4_ h5_ h6_ h7_
           have HO_4 := n0_
           have BK253 := n1_
           have BK261 := n2_
           have GW261 := n3_
           have GE261 := n4_
           have NB253_261 := n5_
           have NB261_253 := n6_
           have HB := n7_
           clear n0_ n1_ n2_ n3_ n4_ n5_ n6_ n7_
           have hHeld : w31.cell? ⟨gb253, 0, none⟩ = some (.int .i64 x254000_1) ∧ w31.cell? ⟨gb253, 1, none⟩ = some (.string x254001_1) ∧ w31.cell? ⟨gb253, 2, none⟩ = some (.int .i64 x254002_1) ∧ w31.cell? ⟨gb253, 3, none⟩ = some (.int .i64 x254003_1) := hS_
           refine norm_ (a' := ?_) ?_ ?_
           rotate_left
           ·
            simp only [putAll, Act.put, List.setIfInBounds_toArray, List.set_cons_zero, List.set_cons_succ]
            rfl
           refine one_ (i := 9) (N := none) #[true, true, true, true, true, true, true, true, true, true, false] rfl rfl (one_of HT_.out (by kernel_rfl)) (by decide) (fun K hK => ?_)
           have hs32 : w31.cell? ⟨gb261, 0, none⟩ = some (.int .i64 0) := (blk_cell BK261.out 0).trans rfl
           have hfs32 := blk_frozen BK261.out 0
           have hns32_0 := NB253_261.out
           have hms32_0 := NB261_253.out
           have hs33 : w31.cell? ⟨gb261, 1, none⟩ = some (.string (⟨#[]⟩ : ByteArray)) := (blk_cell BK261.out 1).trans rfl
           have hfs33 := blk_frozen BK261.out 1
           have hns33_0 := NB253_261.out
           have hms33_0 := NB261_253.out
           have hs34 : w31.cell? ⟨gb261, 2, none⟩ = some (.int .i64 0) := (blk_cell BK261.out 2).trans rfl
           have hfs34 := blk_frozen BK261.out 2
           have hns34_0 := NB253_261.out
           have hms34_0 := NB261_253.out
           have hs35 : w31.cell? ⟨gb261, 3, none⟩ = some (.int .i64 0) := (blk_cell BK261.out 3).trans rfl
           have hfs35 := blk_frozen BK261.out 3
           have hns35_0 := NB253_261.out
           have hms35_0 := NB261_253.out
           refine skip_ (w1 := ?_) (by rfl) rfl ?_ ?_
           rotate_left
           ·
            go_simp
            rfl
           refine hK.out _ _ ⟨((cell_far (p := ⟨gb261, _, none⟩) NB253_261.out _).trans (((cell_far (p := ⟨gb261, _, none⟩) NB253_261.out _).trans (((cell_far (p := ⟨gb261, _, none⟩) NB253_261.out _).trans (((cell_far (p := ⟨gb261, _, none⟩) NB253_261.out _).trans (hHeld.1)))))))), ((cell_far (p := ⟨gb261, _, none⟩) NB253_261.out _).trans (((cell_far (p := ⟨gb261, _, none⟩) NB253_261.out _).trans (((cell_far (p := ⟨gb261, _, none⟩) NB253_261.out _).trans (((cell_far (p := ⟨gb261, _, none⟩) NB253_261.out _).trans (hHeld.2.1)))))))), ((cell_far (p := ⟨gb261, _, none⟩) NB253_261.out _).trans (((cell_far (p := ⟨gb261, _, none⟩) NB253_261.out _).trans (((cell_far (p := ⟨gb261, _, none⟩) NB253_261.out _).trans (((cell_far (p := ⟨gb261, _, none⟩) NB253_261.out _).trans (hHeld.2.2.1)))))))), ((cell_far (p := ⟨gb261, _, none⟩) NB253_261.out _).trans (((cell_far (p := ⟨gb261, _, none⟩) NB253_261.out _).trans (((cell_far (p := ⟨gb261, _, none⟩) NB253_261.out _).trans (((cell_far (p := ⟨gb261, _, none⟩) NB253_261.out _).trans (hHeld.2.2.2))))))))⟩ (fun hHeld => ?_)
           clear hK K
           refine pure_ (i := 10) (N := some 8) (v := ?_) (a' := ?_) #[true, true, true, true, true, true, true, true, true, true, true] rfl rfl (any_of HT_.out (by kernel_rfl)) (fun _ _ _ h => h) (Or.inl ⟨by rfl, ?_⟩) ?_ ?_
           rotate_left
           ·
            intro w'
            go_simp
            with_reducible rfl
           rotate_left
           ·
            simp only [Act.put, List.setIfInBounds_toArray, List.set_cons_zero, List.set_cons_succ, i64_w, i32_w]
            rfl
           refine done_ (done_of HT_.out (by kernel_rfl)) ?_
           have hnb36 := NB261_253.out
           have hnc36 := NB253_261.out
           have hcz37_0 : w31.cell? ⟨gb261, 0, none⟩ = some (.int .i64 0) := (blk_cell BK261.out 0).trans rfl
           have hcz37_1 : w31.cell? ⟨gb261, 1, none⟩ = some (.string (⟨#[]⟩ : ByteArray)) := (blk_cell BK261.out 1).trans rfl
           have hcz37_2 : w31.cell? ⟨gb261, 2, none⟩ = some (.int .i64 0) := (blk_cell BK261.out 2).trans rfl
           have hcz37_3 : w31.cell? ⟨gb261, 3, none⟩ = some (.int .i64 0) := (blk_cell BK261.out 3).trans rfl
           have hfz37_0 := blk_frozen BK261.out 0
           have hfz37_1 := blk_frozen BK261.out 1
           have hfz37_2 := blk_frozen BK261.out 2
           have hfz37_3 := blk_frozen BK261.out 3
           try go_wp2
           have n0_ : Aside0 (Kd.R k30 30 (((((w31.setCell ⟨gb261, 0, none⟩ (.int .i64 t256)).setCell ⟨gb261, 1, none⟩ (.string t257)).setCell ⟨gb261, 2, none⟩ (.int .i64 t258)).setCell ⟨gb261, 3, none⟩ (.int .i64 t259)).setCell ⟨gb261, 3, none⟩ (.int .i64 x6_1)) w.heap.size (fun k_ => k_ ≠ gb253 ∧ k_ ≠ gb261) u4 x4_1) := ⟨by (with_reducible repeat (first | apply Kd.R_alloc | apply Kd.R_drewN | apply Kd.R_drew)); exact Kd.R_mono (Kd.R_far (p := ⟨gb261, 3, none⟩) (Kd.R_far (p := ⟨gb261, 3, none⟩) (Kd.R_far (p := ⟨gb261, 2, none⟩) (Kd.R_far (p := ⟨gb261, 1, none⟩) (Kd.R_far (p := ⟨gb261, 0, none⟩) (Kd.R_mono HO_4.out (fun k_ hk => (⟨hk, by first | exact hk.2 | exact hk⟩ : _ ∧ k_ ≠ gb261))) (fun _ hk => hk.2) (.int .i64 t256)) (fun _ hk => hk.2) (.string t257)) (fun _ hk => hk.2) (.int .i64 t258)) (fun _ hk => hk.2) (.int .i64 t259)) (fun _ hk => hk.2) (.int .i64 x6_1)) (fun _ hk => ⟨hk.1.1, hk.1.2⟩)⟩
           have n1_ : Aside0 ((((((w31.setCell ⟨gb261, 0, none⟩ (.int .i64 t256)).setCell ⟨gb261, 1, none⟩ (.string t257)).setCell ⟨gb261, 2, none⟩ (.int .i64 t258)).setCell ⟨gb261, 3, none⟩ (.int .i64 t259)).setCell ⟨gb261, 3, none⟩ (.int .i64 x6_1)).heap[gb253]? = some (.cells #[.int .i64 x254000_1, .string x254001_1, .int .i64 x254002_1, .int .i64 x254003_1] 30 (0, 0))) := ⟨by (with_reducible repeat (first | refine blk_drewN ?_ _ | refine blk_drew ?_ | refine blk_alloc ?_ _)); refine blk_far ?_ NB253_261.out _; (with_reducible repeat (first | refine blk_drewN ?_ _ | refine blk_drew ?_ | refine blk_alloc ?_ _)); refine blk_far ?_ NB253_261.out _; (with_reducible repeat (first | refine blk_drewN ?_ _ | refine blk_drew ?_ | refine blk_alloc ?_ _)); refine blk_far ?_ NB253_261.out _; (with_reducible repeat (first | refine blk_drewN ?_ _ | refine blk_drew ?_ | refine blk_alloc ?_ _)); refine blk_far ?_ NB253_261.out _; (with_reducible repeat (first | refine blk_drewN ?_ _ | refine blk_drew ?_ | refine blk_alloc ?_ _)); refine blk_far ?_ NB253_261.out _; (with_reducible repeat (first | refine blk_drewN ?_ _ | refine blk_drew ?_ | refine blk_alloc ?_ _)); exact BK253.out⟩
           have n2_ : Aside0 ((((((w31.setCell ⟨gb261, 0, none⟩ (.int .i64 t256)).setCell ⟨gb261, 1, none⟩ (.string t257)).setCell ⟨gb261, 2, none⟩ (.int .i64 t258)).setCell ⟨gb261, 3, none⟩ (.int .i64 t259)).setCell ⟨gb261, 3, none⟩ (.int .i64 x6_1)).heap[gb261]? = some (.cells #[.int .i64 t256, .string t257, .int .i64 t258, .int .i64 x6_1] 30 (0, 0))) := ⟨by (with_reducible repeat (first | refine blk_drewN ?_ _ | refine blk_drew ?_ | refine blk_alloc ?_ _)); refine blk_put (cs := #[.int .i64 t256, .string t257, .int .i64 t258, .int .i64 t259]) ?_ 3 _ rfl; (with_reducible repeat (first | refine blk_drewN ?_ _ | refine blk_drew ?_ | refine blk_alloc ?_ _)); refine blk_put (cs := #[.int .i64 t256, .string t257, .int .i64 t258, .int .i64 0]) ?_ 3 _ rfl; (with_reducible repeat (first | refine blk_drewN ?_ _ | refine blk_drew ?_ | refine blk_alloc ?_ _)); refine blk_put (cs := #[.int .i64 t256, .string t257, .int .i64 0, .int .i64 0]) ?_ 2 _ rfl; (with_reducible repeat (first | refine blk_drewN ?_ _ | refine blk_drew ?_ | refine blk_alloc ?_ _)); refine blk_put (cs := #[.int .i64 t256, .string (⟨#[]⟩ : ByteArray), .int .i64 0, .int .i64 0]) ?_ 1 _ rfl; (with_reducible repeat (first | refine blk_drewN ?_ _ | refine blk_drew ?_ | refine blk_alloc ?_ _)); refine blk_put (cs := #[.int .i64 0, .string (⟨#[]⟩ : ByteArray), .int .i64 0, .int .i64 0]) ?_ 0 _ rfl; (with_reducible repeat (first | refine blk_drewN ?_ _ | refine blk_drew ?_ | refine blk_alloc ?_ _)); exact BK261.out⟩
           have n3_ : Aside0 (Below w.heap.size w (((((w31.setCell ⟨gb261, 0, none⟩ (.int .i64 t256)).setCell ⟨gb261, 1, none⟩ (.string t257)).setCell ⟨gb261, 2, none⟩ (.int .i64 t258)).setCell ⟨gb261, 3, none⟩ (.int .i64 t259)).setCell ⟨gb261, 3, none⟩ (.int .i64 x6_1))) := ⟨carH HB.out⟩
           (try clear HO_4)
           (try clear BK253)
           (try clear BK261)
           (try clear HB)
           generalize (((((w31.setCell ⟨gb261, 0, none⟩ (.int .i64 t256)).setCell ⟨gb261, 1, none⟩ (.string t257)).setCell ⟨gb261, 2, none⟩ (.int .i64 t258)).setCell ⟨gb261, 3, none⟩ (.int .i64 t259)).setCell ⟨gb261, 3, none⟩ (.int .i64 x6_1)) = w38 at n0_ n1_ n2_ n3_ ⊢
           have HO_4 := n0_
           have BK253 := n1_
           have BK261 := n2_
           have HB := n3_
           clear n0_ n1_ n2_ n3_
           have n0_ := Aside0.mk (Kd.R_drew HO_4.out)
           have n1_ := Aside0.mk (blk_drew BK253.out)
           have n2_ := Aside0.mk (blk_drew BK261.out)
           have n3_ := Aside0.mk (below_drew1 HB.out)
           clear HO_4
           clear BK253
           clear BK261
           clear HB
           have HO_4 := n0_
           have BK253 := n1_
           have BK261 := n2_
           have HB := n3_
           clear n0_ n1_ n2_ n3_
           refine start_ (n := 11) (S := fun w' => w'.cell? ⟨gb261, 0, none⟩ = some (.int .i64 t256) ∧ w'.cell? ⟨gb261, 1, none⟩ = some (.string t257) ∧ w'.cell? ⟨gb261, 2, none⟩ = some (.int .i64 t258) ∧ w'.cell? ⟨gb261, 3, none⟩ = some (.int .i64 x6_1)) (ds := []) #[false, false, false, false, false, false, false, false, false, false, false] (by kernel_rfl) rfl rfl ⟨(blk_cell BK261.out 0).trans rfl, (blk_cell BK261.out 1).trans rfl, (blk_cell BK261.out 2).trans rfl, (blk_cell BK261.out 3).trans rfl⟩ (fun hHeld => ?_); refine with_tabW impl_Lex.tab14 impl_Lex.bits14 (fun HT_ HW_ => ?_)
           generalize w38.drew = w39 at HO_4 BK253 BK261 HB hHeld ⊢
           refine pure_ (i := 0) (N := some 48) (v := ?_) (a' := ?_) #[true, false, false, false, false, false, false, false, false, false, false] rfl rfl (any_of HT_.out (by kernel_rfl)) (fun _ _ _ h => h) (Or.inl ⟨by rfl, ?_⟩) ?_ ?_
           rotate_left
           ·
            intro w'
            go_simp
            with_reducible rfl
           rotate_left
           ·
            simp only [Act.put, List.setIfInBounds_toArray, List.set_cons_zero, List.set_cons_succ, i64_w, i32_w]
            rfl
           refine pure_ (i := 5) (N := some 53) (v := ?_) (a' := ?_) #[true, false, false, false, false, true, false, false, false, false, false] rfl rfl (any_of HT_.out (by kernel_rfl)) (fun _ _ _ h => h) (Or.inl ⟨by rfl, ?_⟩) ?_ ?_
           rotate_left
           ·
            intro w'
            go_simp
            with_reducible rfl
           rotate_left
           ·
            simp only [Act.put, List.setIfInBounds_toArray, List.set_cons_zero, List.set_cons_succ, i64_w, i32_w]
            rfl
           refine pure_ (i := 6) (N := some 54) (v := ?_) (a' := ?_) #[true, false, false, false, false, true, true, false, false, false, false] rfl rfl (any_of HT_.out (by kernel_rfl)) (fun _ _ _ h => h) (Or.inl ⟨by rfl, ?_⟩) ?_ ?_
           rotate_left
           ·
            intro w'
            go_simp
            with_reducible rfl
           rotate_left
           ·
            simp only [Act.put, List.setIfInBounds_toArray, List.set_cons_zero, List.set_cons_succ, i64_w, i32_w]
            rfl
           refine pure_ (i := 7) (N := some 55) (v := ?_) (a' := ?_) #[true, false, false, false, false, true, true, true, false, false, false] rfl rfl (any_of HT_.out (by kernel_rfl)) (fun _ _ _ h => h) (Or.inl ⟨by rfl, ?_⟩) ?_ ?_
           rotate_left
           ·
            intro w'
            go_simp
            with_reducible rfl
           rotate_left
           ·
            simp only [Act.put, List.setIfInBounds_toArray, List.set_cons_zero, List.set_cons_succ, i64_w, i32_w]
            rfl
           refine take_ (i := 1) (N := some 49) (v := ?_) (a' := ?_) #[true, true, false, false, false, true, true, true, false, false, false] rfl rfl (take_ofW HT_.out HW_.out (by kernel_rfl)) (fun _ _ _ h => h) (Or.inl ⟨by rfl, ?_⟩) hHeld ?_ ?_
           rotate_left
           ·
            rintro w' ⟨s0, s1, s2, s3⟩
            go_simp
            with_reducible rfl
           rotate_left
           ·
            simp only [Act.put, List.setIfInBounds_toArray, List.set_cons_zero, List.set_cons_succ, i64_w, i32_w]
            rfl
           refine take_ (i := 4) (N := some 52) (v := ?_) (a' := ?_) #[true, true, false, false, true, true, true, true, false, false, false] rfl rfl (take_ofW HT_.out HW_.out (by kernel_rfl)) (fun _ _ _ h => h) (Or.inl ⟨by rfl, ?_⟩) hHeld ?_ ?_
           rotate_left
           ·
            rintro w' ⟨s0, s1, s2, s3⟩
            go_simp
            with_reducible rfl
           rotate_left
           ·
            simp only [Act.put, List.setIfInBounds_toArray, List.set_cons_zero, List.set_cons_succ, i64_w, i32_w]
            rfl
           refine one_ (i := 2) (N := some 50) #[true, true, true, false, true, true, true, true, false, false, false] rfl rfl (one_of HT_.out (by kernel_rfl)) (by decide) (fun K hK => ?_)
           refine value_ (w1 := ?_) (v := ?_) (by rfl) rfl ?_ ?_
           rotate_left 2
           ·
            go_simp
            constructor
            ·
             rfl
            ·
             rfl
           refine hK.out _ _ ⟨(blk_cell (blk_alloc BK261.out _) 0).trans rfl, (blk_cell (blk_alloc BK261.out _) 1).trans rfl, (blk_cell (blk_alloc BK261.out _) 2).trans rfl, (blk_cell (blk_alloc BK261.out _) 3).trans rfl⟩ (fun hHeld => ?_)
           clear hK K
           refine norm_ (a' := ?_) ?_ ?_
           rotate_left
           ·
            show Act.put _ (some 50) _ = _
            simp only [Act.put, List.setIfInBounds_toArray, List.set_cons_zero, List.set_cons_succ, i64_w, i32_w]
            rfl
           refine one_ (i := 3) (N := some 51) #[true, true, true, true, true, true, true, true, false, false, false] rfl rfl (one_of HT_.out (by kernel_rfl)) (by decide) (fun K hK => ?_)
           refine Kd.R_append_step k30 (w0 := w) w.heap.size (by rfl) (.tmp 48) (.tmp 50) 22 30 (.agg #[(.int .i64 0), (.string ⟨#[]⟩), (.int .i64 0), (.int .i64 0)]) 40 rfl Tryd.underlying22 info30 rfl (by decide) (by omega) u4 x4_1 (⟨t256, t257, t258, x6_1⟩ : S30) [.int .i64 t256, .string t257, .int .i64 t258, .int .i64 x6_1] (fun k_ => k_ ≠ gb253 ∧ k_ ≠ gb261) (fun _ => False) rfl rfl ?aP (fun _ hk => hk.elim) ?aF ?aO ?aB ?aS ?aL ?_
           (case aP => exact k30_mkM _ _ _ (⟨t256, t257, t258, x6_1⟩ : S30))
           (case aB => exact (carH HB.out))
           (case aF => exact (fun k_ hk => ⟨Kd.freshB (g := gb253) (o := .cells #[.int .i64 x254000_1, .string x254001_1, .int .i64 x254002_1, .int .i64 x254003_1] 30 (0, 0)) (carB BK253.out) k_ hk, Kd.freshB (g := gb261) (o := .cells #[.int .i64 t256, .string t257, .int .i64 t258, .int .i64 x6_1] 30 (0, 0)) (carB BK261.out) k_ hk⟩))
           (case aO => exact (carR HO_4.out))
           (case aS => exact (below_size (carH HB.out)))
           (case aL => have := LMc27.out; omega)
           intro v263 w40 ho hb hg hat
           rw [← Ny262.out] at ho
           have n0_ := Aside0.mk (blk_grown (g := gb253) (o := .cells #[.int .i64 x254000_1, .string x254001_1, .int .i64 x254002_1, .int .i64 x254003_1] 30 (0, 0)) (carB BK253.out) hg (Kd.R_away HO_4.out (fun _ hk => hk.1)))
           have n1_ := Aside0.mk (blk_grown (g := gb261) (o := .cells #[.int .i64 t256, .string t257, .int .i64 t258, .int .i64 x6_1] 30 (0, 0)) (carB BK261.out) hg (Kd.R_away HO_4.out (fun _ hk => hk.2)))
           have n2_ := Aside0.mk (hb)
           have n3_ := Aside0.mk (ho)
           clear BK253
           clear BK261
           clear HB
           clear HO_4
           have BK253 := n0_
           have BK261 := n1_
           have HB := n2_
           have HO264 := n3_
           clear n0_ n1_ n2_ n3_
           clear ho hb hg hat
           refine hK.out _ _ ⟨(blk_cell BK261.out 0).trans rfl, (blk_cell BK261.out 1).trans rfl, (blk_cell BK261.out 2).trans rfl, (blk_cell BK261.out 3).trans rfl⟩ (fun hHeld => ?_)
           clear hK K
           refine norm_ (a' := ?_) ?_ ?_
           rotate_left
           ·
            show Act.put _ (some 51) _ = _
            simp only [Act.put, List.setIfInBounds_toArray, List.set_cons_zero, List.set_cons_succ, i64_w, i32_w]
            rfl
           refine pure_ (i := 8) (N := some 4) (v := ?_) (a' := ?_) #[true, true, true, true, true, true, true, true, true, false, false] rfl rfl (any_of HT_.out (by kernel_rfl)) (fun _ _ _ h => h) (Or.inl ⟨by rfl, ?_⟩) ?_ ?_
           rotate_left
           ·
            intro w'
            go_simp
            with_reducible rfl
           rotate_left
           ·
            simp only [Act.put, List.setIfInBounds_toArray, List.set_cons_zero, List.set_cons_succ, i64_w, i32_w]
            rfl
           refine one_ (i := 9) (N := none) #[true, true, true, true, true, true, true, true, true, true, false] rfl rfl (one_of HT_.out (by kernel_rfl)) (by decide) (fun K hK => ?_)
           have hs41 : w40.cell? ⟨gb253, 0, none⟩ = some (.int .i64 x254000_1) := (blk_cell BK253.out 0).trans rfl
           have hfs41 := blk_frozen BK253.out 0
           have hns41_1 := NB261_253.out
           have hms41_1 := NB253_261.out
           have hs42 : w40.cell? ⟨gb253, 1, none⟩ = some (.string x254001_1) := (blk_cell BK253.out 1).trans rfl
           have hfs42 := blk_frozen BK253.out 1
           have hns42_1 := NB261_253.out
           have hms42_1 := NB253_261.out
           have hs43 : w40.cell? ⟨gb253, 2, none⟩ = some (.int .i64 x254002_1) := (blk_cell BK253.out 2).trans rfl
           have hfs43 := blk_frozen BK253.out 2
           have hns43_1 := NB261_253.out
           have hms43_1 := NB253_261.out
           have hs44 : w40.cell? ⟨gb253, 3, none⟩ = some (.int .i64 x254003_1) := (blk_cell BK253.out 3).trans rfl
           have hfs44 := blk_frozen BK253.out 3
           have hns44_1 := NB261_253.out
           have hms44_1 := NB253_261.out
           refine skip_ (w1 := ?_) (by rfl) rfl ?_ ?_
           rotate_left
           ·
            go_simp
            rfl
           refine hK.out _ _ ⟨((cell_far (p := ⟨gb253, _, none⟩) NB261_253.out _).trans (((cell_far (p := ⟨gb253, _, none⟩) NB261_253.out _).trans (((cell_far (p := ⟨gb253, _, none⟩) NB261_253.out _).trans (((cell_far (p := ⟨gb253, _, none⟩) NB261_253.out _).trans (hHeld.1)))))))), ((cell_far (p := ⟨gb253, _, none⟩) NB261_253.out _).trans (((cell_far (p := ⟨gb253, _, none⟩) NB261_253.out _).trans (((cell_far (p := ⟨gb253, _, none⟩) NB261_253.out _).trans (((cell_far (p := ⟨gb253, _, none⟩) NB261_253.out _).trans (hHeld.2.1)))))))), ((cell_far (p := ⟨gb253, _, none⟩) NB261_253.out _).trans (((cell_far (p := ⟨gb253, _, none⟩) NB261_253.out _).trans (((cell_far (p := ⟨gb253, _, none⟩) NB261_253.out _).trans (((cell_far (p := ⟨gb253, _, none⟩) NB261_253.out _).trans (hHeld.2.2.1)))))))), ((cell_far (p := ⟨gb253, _, none⟩) NB261_253.out _).trans (((cell_far (p := ⟨gb253, _, none⟩) NB261_253.out _).trans (((cell_far (p := ⟨gb253, _, none⟩) NB261_253.out _).trans (((cell_far (p := ⟨gb253, _, none⟩) NB261_253.out _).trans (hHeld.2.2.2))))))))⟩ (fun hHeld => ?_)
           clear hK K
           refine pure_ (i := 10) (N := some 6) (v := ?_) (a' := ?_) #[true, true, true, true, true, true, true, true, true, true, true] rfl rfl (any_of HT_.out (by kernel_rfl)) (fun _ _ _ h => h) (Or.inl ⟨by rfl, ?_⟩) ?_ ?_
           rotate_left
           ·
            intro w'
            go_simp
            with_reducible rfl
           rotate_left
           ·
            simp only [Act.put, List.setIfInBounds_toArray, List.set_cons_zero, List.set_cons_succ, i64_w, i32_w]
            rfl
           refine done_ (done_of HT_.out (by kernel_rfl)) ?_
           try go_wp2
           go_roundg k1
           case measure => have := HK1.out; omega
           case rel => exact ⟨(y262), (wrap64 (x6_1 + t260)), (t256), (t257), (t258), (x6_1), argK, H', ⟨by have := HK1.out; omega⟩, ⟨by (with_reducible repeat (first | apply Kd.R_alloc | apply Kd.R_drewN | apply Kd.R_drew)); exact Kd.R_mono (Kd.R_far (p := ⟨gb253, 3, none⟩) (Kd.R_far (p := ⟨gb253, 2, none⟩) (Kd.R_far (p := ⟨gb253, 1, none⟩) (Kd.R_far (p := ⟨gb253, 0, none⟩) (Kd.R_mono HO264.out (fun k_ hk => (⟨hk, by first | exact hk.1 | exact hk⟩ : _ ∧ k_ ≠ gb253))) (fun _ hk => hk.2) (.int .i64 t256)) (fun _ hk => hk.2) (.string t257)) (fun _ hk => hk.2) (.int .i64 t258)) (fun _ hk => hk.2) (.int .i64 x6_1)) (fun _ hk => by first | exact hk.1.1 | exact hk.1 | exact hk.2)⟩, ⟨by (with_reducible repeat (first | refine blk_drewN ?_ _ | refine blk_drew ?_ | refine blk_alloc ?_ _)); refine blk_put (cs := #[.int .i64 t256, .string t257, .int .i64 t258, .int .i64 x254003_1]) ?_ 3 _ rfl; (with_reducible repeat (first | refine blk_drewN ?_ _ | refine blk_drew ?_ | refine blk_alloc ?_ _)); refine blk_put (cs := #[.int .i64 t256, .string t257, .int .i64 x254002_1, .int .i64 x254003_1]) ?_ 2 _ rfl; (with_reducible repeat (first | refine blk_drewN ?_ _ | refine blk_drew ?_ | refine blk_alloc ?_ _)); refine blk_put (cs := #[.int .i64 t256, .string x254001_1, .int .i64 x254002_1, .int .i64 x254003_1]) ?_ 1 _ rfl; (with_reducible repeat (first | refine blk_drewN ?_ _ | refine blk_drew ?_ | refine blk_alloc ?_ _)); refine blk_put (cs := #[.int .i64 x254000_1, .string x254001_1, .int .i64 x254002_1, .int .i64 x254003_1]) ?_ 0 _ rfl; (with_reducible repeat (first | refine blk_drewN ?_ _ | refine blk_drew ?_ | refine blk_alloc ?_ _)); exact BK253.out⟩, ⟨carH HB.out⟩⟩
          ·
           rw [if_neg c27] at H
           exact absurd H (by simp)
        ·
         rw [if_neg c16] at H
         exact absurd H (by simp)
     ·
      rw [if_neg c8] at H
      exact absurd H (by simp)
    ·
     rw [if_neg c7] at H
     have c7b0 : decide (x6_1 < (a0.size : Int)) = false := decide_eq_false c7
     clear c7
     simp only [Option.some.injEq, Prod.mk.injEq] at H
     obtain ⟨rfl, rfl⟩ := H
     go_wp2
     go_ret2
     exact ⟨_, retK, by (with_reducible repeat (first | apply Kd.R_alloc | apply Kd.R_drewN | apply Kd.R_drew)); exact Kd.R_mono HO_4.out (fun _ hk => trivial), carH HB.out⟩

end Go.Proofs.YtmddcohelcciaacDoor.PFnExactLex
