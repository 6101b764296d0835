-- XPRINTED: written by a program of this session (wip/xprint), which turns the kit's print
import Derived.Test.YtmddcohelcciaacDoorPFnExactLexx0
import Derived.Test.YtmddcohelcciaacDoorPFnExactLexx1
import Derived.Test.YtmddcohelcciaacDoorPFnExactLexx3
import Derived.Test.YtmddcohelcciaacDoorPFnExactLexx4
import Derived.Test.YtmddcohelcciaacDoorPFnExactLexx5
namespace Go.Proofs.YtmddcohelcciaacDoor.PFnExactLex
open Go.RowKit Go.Proofs.YtmddcohelcciaacDoorW.PrintWords Go.Proofs.YtmddcohelcciaacDoorW.PrintLast Go.Proofs.YtmddcohelcciaacDoorW.PrintMore
attribute [local go_sem] max2_int min2_int max_two min_two max_three min_three max_four min_four   -- for this text's walks alone
set_option linter.unusedVariables false
set_option linter.unusedSimpArgs false

/-! ### spec_l3sign: function 17 -/
def spec_l3sign.l0 : Nat → ByteArray → Int → List ByteArray → Int → Option (Int × ByteArray × Int × Int × Int)
 | 0, _, _, _, _ => none
 | k + 1, x0, x1, x6, x7 => if x7 < (x6.length : Int) then (if 0 ≤ x7 then (if (wrap64 (x1 + ((rdOf ByteArray.empty x6 x7).size : Int))) ≤ (x0.size : Int) then (if 0 ≤ x1 then (if x1 ≤ (wrap64 (x1 + ((rdOf ByteArray.empty x6 x7).size : Int))) then (if (x0.extract (x1 : Int).toNat ((wrap64 (x1 + ((rdOf ByteArray.empty x6 x7).size : Int))) : Int).toNat).toList = (rdOf ByteArray.empty x6 x7).toList then (some (7, rdOf ByteArray.empty x6 x7, 0, x1, wrap64 (x1 + ((rdOf ByteArray.empty x6 x7).size : Int)))) else (spec_l3sign.l0 k x0 x1 x6 (wrap64 (x7 + 1)))) else (none)) else (none)) else (spec_l3sign.l0 k x0 x1 x6 (wrap64 (x7 + 1)))) else (none)) else (some (0, (⟨#[]⟩ : ByteArray), 0, 0, (-1)))
def spec_l3sign.f (k : Nat) (a0 : ByteArray) (a1 : Int) : Option (Int × ByteArray × Int × Int × Int) := (spec_l3signs.f).bind fun t153 => (spec_l3sign.l0 k a0 a1 t153 0)
theorem spec_l3sign.mono_l : ∀ k, (∀ y0 y1 y2 y3, LeO (spec_l3sign.l0 k y0 y1 y2 y3) (spec_l3sign.l0 (k + 1) y0 y1 y2 y3))
 | 0 => fun _ _ _ _ r h => by simp [spec_l3sign.l0] at h
 | k + 1 => by
  have ih0 := spec_l3sign.mono_l k
  ·
   intro y0 y1 y2 y3
   unfold spec_l3sign.l0
   repeat' first
   | (with_reducible exact ih0 _ _ _ _)
   | (with_reducible exact LeO.refl _)
   | (with_reducible exact LeO.none _)
   | (with_reducible refine LeO.ite ?_ ?_)
   | (with_reducible refine LeO.bind ?_ (fun _ => ?_))
   | exact ih0 _ _ _ _
   | exact LeO.none _
   | refine LeO.ite ?_ ?_
   | refine LeO.bind ?_ (fun _ => ?_)
theorem spec_l3sign.mono : ∀ a0 a1 k, LeO (spec_l3sign.f k a0 a1) (spec_l3sign.f (k + 1) a0 a1) := by
 intro a0 a1 k
 have ih0 := spec_l3sign.mono_l k
 unfold spec_l3sign.f
 repeat' first
   | (with_reducible exact ih0 _ _ _ _)
   | (with_reducible exact LeO.refl _)
   | (with_reducible exact LeO.none _)
   | (with_reducible refine LeO.ite ?_ ?_)
   | (with_reducible refine LeO.bind ?_ (fun _ => ?_))
   | exact ih0 _ _ _ _
   | exact LeO.none _
   | refine LeO.ite ?_ ?_
   | refine LeO.bind ?_ (fun _ => ?_)
set_option maxHeartbeats 8000000 in
set_option maxRecDepth 100000 in
theorem spec_l3sign.calls (k : Nat) (a0 : ByteArray) (a1 : Int) (r1 : Int) (r2 : ByteArray) (r3 : Int) (r4 : Int) (r5 : Int) (w : World) (h : spec_l3sign.f k a0 a1 = some (r1, r2, r3, r4, r5)) :
  Calls Tryd.prog 17 #[.string a0, .int .i64 a1] w fun e w' => e = .returned (.tuple #[.agg #[.int .i64 r1, .string r2, .int .i64 r3, .int .i64 r4], .int .i64 r5]) ∧ Below w.heap.size w w' := by
 have hu30 := Tryd.underlying30
 have HB := Aside0.mk (Below.refl w.heap.size w)
 have H : ((spec_l3signs.f).bind fun t153 => (spec_l3sign.l0 k a0 a1 t153 0)) = some (r1, r2, r3, r4, r5) := h
 clear h
 replace H := Option.bind_eq_some_iff.mp H
 obtain ⟨t153, A30, H⟩ := H
 replace H : (spec_l3sign.l0 k a0 a1 t153 0) = some (r1, r2, r3, r4, r5) := H
 have A3 := Aside0.mk A30
 clear A30
 have H' := Aside0.mk H
 clear H
 go_enter Tryd.func17, Tryd.ntmps17
 go_wp2_with (first | ((with_reducible refine gate_dst (N := 4) rfl ?_); refine box_event ?hg (N := 4) ?hd (cs := #[.int .i64 0, .string (⟨#[]⟩ : ByteArray), .int .i64 0, .int .i64 0]) (t := 30) ?hr ?_; (case hd => rfl); (case hg => rfl); (case hr => first | (go_simp; done) | (go_simp; rfl)); intro gb152 hg w4 hbox hb; have n0_ := Aside0.mk (below_step (carH HB.out) hb); have n1_ := Aside0.mk (hbox); have n2_ := Aside0.mk ((by rw [hg]; exact (below_size (carH HB.out)) : w.heap.size ≤ gb152)); have n3_ := Aside0.mk ((by rw [hg]; exact (below_size (carH HB.out)) : w.heap.size ≤ gb152)); clear HB; have HB := n0_; have BK152 := n1_; have GW152 := n2_; have GE152 := n3_; clear n0_ n1_ n2_ n3_; clear hb hbox hg) | (go_at_call 28; (with_reducible refine (spec_l3signs.calls  t153 _ A3.out).mono ?_); rintro e w5 ⟨v154, rfl, ho0, hb⟩; have n0_ := Aside0.mk (Kd.R_lower ho0 (below_size (carH HB.out))); have n1_ := Aside0.mk (blk_below (g := gb152) (o := .cells #[.int .i64 0, .string (⟨#[]⟩ : ByteArray), .int .i64 0, .int .i64 0] 30 (0, 0)) (carB BK152.out) hb); have n2_ := Aside0.mk (below_step (carH HB.out) hb); clear BK152; clear HB; have HO155 := n0_; have BK152 := n1_; have HB := n2_; clear n0_ n1_ n2_; (try clear hb); (try clear hb2); (try clear hk); (try clear hi); (try clear ho0)))
 repeat (go_quiet (first | ((with_reducible refine gate_dst (N := 4) rfl ?_); refine box_event ?hg (N := 4) ?hd (cs := #[.int .i64 0, .string (⟨#[]⟩ : ByteArray), .int .i64 0, .int .i64 0]) (t := 30) ?hr ?_; (case hd => rfl); (case hg => rfl); (case hr => first | (go_simp; done) | (go_simp; rfl)); intro gb152 hg w4 hbox hb; have n0_ := Aside0.mk (below_step (carH HB.out) hb); have n1_ := Aside0.mk (hbox); have n2_ := Aside0.mk ((by rw [hg]; exact (below_size (carH HB.out)) : w.heap.size ≤ gb152)); have n3_ := Aside0.mk ((by rw [hg]; exact (below_size (carH HB.out)) : w.heap.size ≤ gb152)); clear HB; have HB := n0_; have BK152 := n1_; have GW152 := n2_; have GE152 := n3_; clear n0_ n1_ n2_ n3_; clear hb hbox hg) | (go_at_call 28; (with_reducible refine (spec_l3signs.calls  t153 _ A3.out).mono ?_); rintro e w5 ⟨v154, rfl, ho0, hb⟩; have n0_ := Aside0.mk (Kd.R_lower ho0 (below_size (carH HB.out))); have n1_ := Aside0.mk (blk_below (g := gb152) (o := .cells #[.int .i64 0, .string (⟨#[]⟩ : ByteArray), .int .i64 0, .int .i64 0] 30 (0, 0)) (carB BK152.out) hb); have n2_ := Aside0.mk (below_step (carH HB.out) hb); clear BK152; clear HB; have HO155 := n0_; have BK152 := n1_; have HB := n2_; clear n0_ n1_ n2_; (try clear hb); (try clear hb2); (try clear hk); (try clear hi); (try clear ho0))); try go_wp2_with (first | ((with_reducible refine gate_dst (N := 4) rfl ?_); refine box_event ?hg (N := 4) ?hd (cs := #[.int .i64 0, .string (⟨#[]⟩ : ByteArray), .int .i64 0, .int .i64 0]) (t := 30) ?hr ?_; (case hd => rfl); (case hg => rfl); (case hr => first | (go_simp; done) | (go_simp; rfl)); intro gb152 hg w4 hbox hb; have n0_ := Aside0.mk (below_step (carH HB.out) hb); have n1_ := Aside0.mk (hbox); have n2_ := Aside0.mk ((by rw [hg]; exact (below_size (carH HB.out)) : w.heap.size ≤ gb152)); have n3_ := Aside0.mk ((by rw [hg]; exact (below_size (carH HB.out)) : w.heap.size ≤ gb152)); clear HB; have HB := n0_; have BK152 := n1_; have GW152 := n2_; have GE152 := n3_; clear n0_ n1_ n2_ n3_; clear hb hbox hg) | (go_at_call 28; (with_reducible refine (spec_l3signs.calls  t153 _ A3.out).mono ?_); rintro e w5 ⟨v154, rfl, ho0, hb⟩; have n0_ := Aside0.mk (Kd.R_lower ho0 (below_size (carH HB.out))); have n1_ := Aside0.mk (blk_below (g := gb152) (o := .cells #[.int .i64 0, .string (⟨#[]⟩ : ByteArray), .int .i64 0, .int .i64 0] 30 (0, 0)) (carB BK152.out) hb); have n2_ := Aside0.mk (below_step (carH HB.out) hb); clear BK152; clear HB; have HO155 := n0_; have BK152 := n1_; have HB := n2_; clear n0_ n1_ n2_; (try clear hb); (try clear hb2); (try clear hk); (try clear hi); (try clear ho0))))
 go_loopg [7] k (fun kq v7 w' => ∃ (x7_1 : Int) (x153000_1 : Int) (x153001_1 : ByteArray) (x153002_1 : Int) (x153003_1 : Int), v7 = .int .i64 x7_1 ∧ Aside0 (spec_l3sign.l0 kq a0 a1 t153 x7_1 = some (r1, r2, r3, r4, r5)) ∧ Aside0 (kq ≤ k) ∧ Aside0 (Kd.R Kd.string 9 w' w.heap.size (fun _ => True) v154 t153) ∧ Aside0 (w'.heap[gb152]? = some (.cells #[.int .i64 x153000_1, .string x153001_1, .int .i64 x153002_1, .int .i64 x153003_1] 30 (0, 0))) ∧ Aside0 (Below w.heap.size w w'))
 case atStart => exact ⟨(0), (0), ((⟨#[]⟩ : ByteArray)), (0), (0), argK, H', ⟨Nat.le_refl _⟩, ⟨carR HO155.out⟩, ⟨by (with_reducible repeat (first | refine blk_drewN ?_ _ | refine blk_drew ?_ | refine blk_alloc ?_ _)); exact BK152.out⟩, ⟨carH HB.out⟩⟩
 case round =>
  clear H'
  try clear c1
  try clear p2
  obtain ⟨x7_1, x153000_1, x153001_1, x153002_1, x153003_1, rfl, HA, HK1, HO_6, BK152, HB⟩ := hrel
  cases gk with
  | zero => exact absurd HA.out (by simp [spec_l3sign.l0])
  | succ k1 =>
   have H := HA.out
   clear HA
   simp only [spec_l3sign.l0] at H
   by_cases c6 : x7_1 < (t153.length : Int)
   ·
    rw [if_pos c6] at H
    have c6b0 : decide (x7_1 < (t153.length : Int)) = true := decide_eq_true c6
    clear c6
    by_cases c7 : 0 ≤ x7_1
    ·
     rw [if_pos c7] at H
     have c7b0 : decide (0 ≤ x7_1) = true := decide_eq_true c7
     clear c7
     by_cases c8 : (wrap64 (a1 + ((rdOf ByteArray.empty t153 x7_1).size : Int))) ≤ (a0.size : Int)
     ·
      rw [if_pos c8] at H
      have c8b0 : decide ((wrap64 (a1 + ((rdOf ByteArray.empty t153 x7_1).size : Int))) ≤ (a0.size : Int)) = true := decide_eq_true c8
      clear c8
      by_cases c9 : 0 ≤ a1
      ·
       rw [if_pos c9] at H
       have c9b0 := eq_true c9
       have c9b1 : decide (0 ≤ a1) = true := decide_eq_true c9
       clear c9
       by_cases c10 : a1 ≤ (wrap64 (a1 + ((rdOf ByteArray.empty t153 x7_1).size : Int)))
       ·
        rw [if_pos c10] at H
        have c10b0 := eq_true c10
        have c10b1 : decide (a1 ≤ (wrap64 (a1 + ((rdOf ByteArray.empty t153 x7_1).size : Int)))) = true := decide_eq_true c10
        have c11b0 := eq_true (dA : (wrap64 (a1 + ((rdOf ByteArray.empty t153 x7_1).size : Int))) ≤ (a0.size : Int))
        by_cases c12 : (a0.extract (a1 : Int).toNat ((wrap64 (a1 + ((rdOf ByteArray.empty t153 x7_1).size : Int))) : Int).toNat).toList = (rdOf ByteArray.empty t153 x7_1).toList
        ·
         rw [if_pos c12] at H
         have c12b0 : ((a0.extract (a1 : Int).toNat ((wrap64 (a1 + ((rdOf ByteArray.empty t153 x7_1).size : Int))) : Int).toNat).toList == (rdOf ByteArray.empty t153 x7_1).toList) = true := beq_iff_eq.mpr c12
         have c12b1 : ((a0.extract (a1 : Int).toNat ((wrap64 (a1 + ((rdOf ByteArray.empty t153 x7_1).size : Int))) : Int).toNat).toList != (rdOf ByteArray.empty t153 x7_1).toList) = false := bne_eq_false_iff_eq.mpr c12
         clear c12
         simp only [Option.some.injEq, Prod.mk.injEq] at H
         obtain ⟨rfl, rfl, rfl, rfl, rfl⟩ := H
         obtain ⟨Ao13, co13, eo13⟩ := Kd.R_slice HO_6.out
         subst eo13
         have p156 : 0 ≤ (x7_1 : Int) := dA
         have q156 : x7_1 < (t153.length : Int) := dA
         obtain ⟨ad156, e156, hx156_0⟩ := Kd.at_string (Kd.R_reads' HO_6.out).2.2 x7_1 p156 q156
         cases e156
         replace p156 := eq_true p156
         replace q156 := eq_true q156
         have p157 : 0 ≤ (x7_1 : Int) := dA
         have q157 : x7_1 < (t153.length : Int) := dA
         obtain ⟨ad157, e157, hx157_0⟩ := Kd.at_string (Kd.R_reads' HO_6.out).2.2 x7_1 p157 q157
         obtain rfl : ad156 = ad157 := (by injection e157)
         replace p157 := eq_true p157
         replace q157 := eq_true q157
         have p158 : 0 ≤ (x7_1 : Int) := dA
         have q158 : x7_1 < (t153.length : Int) := dA
         obtain ⟨ad158, e158, hx158_0⟩ := Kd.at_string (Kd.R_reads' HO_6.out).2.2 x7_1 p158 q158
         obtain rfl : ad156 = ad158 := (by injection e158)
         replace p158 := eq_true p158
         replace q158 := eq_true q158
         have hcz14_0 : wr.cell? ⟨gb152, 0, none⟩ = some (.int .i64 x153000_1) := (blk_cell BK152.out 0).trans rfl
         have hcz14_1 : wr.cell? ⟨gb152, 1, none⟩ = some (.string x153001_1) := (blk_cell BK152.out 1).trans rfl
         have hcz14_2 : wr.cell? ⟨gb152, 2, none⟩ = some (.int .i64 x153002_1) := (blk_cell BK152.out 2).trans rfl
         have hcz14_3 : wr.cell? ⟨gb152, 3, none⟩ = some (.int .i64 x153003_1) := (blk_cell BK152.out 3).trans rfl
         have hfz14_0 := blk_frozen BK152.out 0
         have hfz14_1 := blk_frozen BK152.out 1
         have hfz14_2 := blk_frozen BK152.out 2
         have hfz14_3 := blk_frozen BK152.out 3
         go_wp2
         repeat (go_quiet (fail); try go_wp2)
         refine bodyPost_ret (results_ct rfl _ _ gb152 30 #[.int .i64 7, .string (rdOf ByteArray.empty t153 x7_1), .int .i64 0, .int .i64 a1] (0, 0) _ rfl (carP BK152.out) Tryd.underlying30 rfl (by kernel_rfl)) rfl ?_
         exact ⟨retK, carH HB.out⟩
        ·
         rw [if_neg c12] at H
         have c12b0 : ((a0.extract (a1 : Int).toNat ((wrap64 (a1 + ((rdOf ByteArray.empty t153 x7_1).size : Int))) : Int).toNat).toList == (rdOf ByteArray.empty t153 x7_1).toList) = false := beq_eq_false_iff_ne.mpr c12
         have c12b1 : ((a0.extract (a1 : Int).toNat ((wrap64 (a1 + ((rdOf ByteArray.empty t153 x7_1).size : Int))) : Int).toNat).toList != (rdOf ByteArray.empty t153 x7_1).toList) = true := bne_iff_ne.mpr c12
         have H' := Aside0.mk H
         clear H
         obtain ⟨Ao15, co15, eo15⟩ := Kd.R_slice HO_6.out
         subst eo15
         have p156 : 0 ≤ (x7_1 : Int) := dA
         have q156 : x7_1 < (t153.length : Int) := dA
         obtain ⟨ad156, e156, hx156_0⟩ := Kd.at_string (Kd.R_reads' HO_6.out).2.2 x7_1 p156 q156
         cases e156
         replace p156 := eq_true p156
         replace q156 := eq_true q156
         have p157 : 0 ≤ (x7_1 : Int) := dA
         have q157 : x7_1 < (t153.length : Int) := dA
         obtain ⟨ad157, e157, hx157_0⟩ := Kd.at_string (Kd.R_reads' HO_6.out).2.2 x7_1 p157 q157
         obtain rfl : ad156 = ad157 := (by injection e157)
         replace p157 := eq_true p157
         replace q157 := eq_true q157
         go_wp2
         repeat (go_quiet (fail); try go_wp2)
         go_roundg k1
         case measure => have := HK1.out; omega
         case rel => exact ⟨(wrap64 (x7_1 + 1)), (x153000_1), (x153001_1), (x153002_1), (x153003_1), argK, H', ⟨by have := HK1.out; omega⟩, ⟨carR HO_6.out⟩, ⟨by (with_reducible repeat (first | refine blk_drewN ?_ _ | refine blk_drew ?_ | refine blk_alloc ?_ _)); exact BK152.out⟩, ⟨carH HB.out⟩⟩
       ·
        rw [if_neg c10] at H
        exact absurd H (by simp)
      ·
       rw [if_neg c9] at H
       exact absurd H (by simp)
     ·
      rw [if_neg c8] at H
      have c8b0 : decide ((wrap64 (a1 + ((rdOf ByteArray.empty t153 x7_1).size : Int))) ≤ (a0.size : Int)) = false := decide_eq_false c8
      clear c8
      have H' := Aside0.mk H
      clear H
      obtain ⟨Ao16, co16, eo16⟩ := Kd.R_slice HO_6.out
      subst eo16
      have p156 : 0 ≤ (x7_1 : Int) := dA
      have q156 : x7_1 < (t153.length : Int) := dA
      obtain ⟨ad156, e156, hx156_0⟩ := Kd.at_string (Kd.R_reads' HO_6.out).2.2 x7_1 p156 q156
      cases e156
      replace p156 := eq_true p156
      replace q156 := eq_true q156
      go_wp2
      repeat (go_quiet (fail); try go_wp2)
      go_roundg k1
      case measure => have := HK1.out; omega
      case rel => exact ⟨(wrap64 (x7_1 + 1)), (x153000_1), (x153001_1), (x153002_1), (x153003_1), argK, H', ⟨by have := HK1.out; omega⟩, ⟨carR HO_6.out⟩, ⟨by (with_reducible repeat (first | refine blk_drewN ?_ _ | refine blk_drew ?_ | refine blk_alloc ?_ _)); exact BK152.out⟩, ⟨carH HB.out⟩⟩
    ·
     rw [if_neg c7] at H
     exact absurd H (by simp)
   ·
    rw [if_neg c6] at H
    have c6b0 : decide (x7_1 < (t153.length : Int)) = false := decide_eq_false c6
    clear c6
    simp only [Option.some.injEq, Prod.mk.injEq] at H
    obtain ⟨rfl, rfl, rfl, rfl, rfl⟩ := H
    obtain ⟨Ao17, co17, eo17⟩ := Kd.R_slice HO_6.out
    subst eo17
    have hcz18_0 : wr.cell? ⟨gb152, 0, none⟩ = some (.int .i64 x153000_1) := (blk_cell BK152.out 0).trans rfl
    have hcz18_1 : wr.cell? ⟨gb152, 1, none⟩ = some (.string x153001_1) := (blk_cell BK152.out 1).trans rfl
    have hcz18_2 : wr.cell? ⟨gb152, 2, none⟩ = some (.int .i64 x153002_1) := (blk_cell BK152.out 2).trans rfl
    have hcz18_3 : wr.cell? ⟨gb152, 3, none⟩ = some (.int .i64 x153003_1) := (blk_cell BK152.out 3).trans rfl
    have hfz18_0 := blk_frozen BK152.out 0
    have hfz18_1 := blk_frozen BK152.out 1
    have hfz18_2 := blk_frozen BK152.out 2
    have hfz18_3 := blk_frozen BK152.out 3
    go_wp2
    repeat (go_quiet (fail); try go_wp2)
    refine bodyPost_ret (results_ct rfl _ _ gb152 30 #[.int .i64 0, .string (⟨#[]⟩ : ByteArray), .int .i64 0, .int .i64 0] (0, 0) _ rfl (carP BK152.out) Tryd.underlying30 rfl (by kernel_rfl)) rfl ?_
    exact ⟨retK, carH HB.out⟩

/-! ### spec_Lex: function 4 -/
mutual
def spec_Lex.l0 : Nat → ByteArray → List (S30) → Int → Option ((List (S30)) × Int)
 | 0, _, _, _ => none
 | k + 1, x0, x4, x5 => if x5 < (x0.size : Int) then (if 0 ≤ x5 then ((spec_l1digit.f (bt x0 x5)).bind fun t161 => (if t161 = true then ((spec_l3num.f k x0 x5).bind fun bt162 => (spec_Lex.j2 k x0 x4 x5 bt162.2.2.2.2 bt162.1 bt162.2.1 bt162.2.2.1 bt162.2.2.2.1)) else (if (bt x0 x5) = 34 then ((spec_l3str.f k x0 x5).bind fun bt167 => (spec_Lex.j2 k x0 x4 x5 bt167.2.2.2.2 bt167.1 bt167.2.1 bt167.2.2.1 bt167.2.2.2.1)) else ((spec_l3letter.f (bt x0 x5)).bind fun t172 => (if t172 = true then ((spec_l3name.f k x0 x5).bind fun bt173 => (spec_Lex.j2 k x0 x4 x5 bt173.2.2.2.2 bt173.1 bt173.2.1 bt173.2.2.1 bt173.2.2.2.1)) else (if (bt x0 x5) = 47 then ((spec_l3operand.f x4).bind fun t178 => (spec_Lex.j1 k x0 x4 x5 (!t178))) else (spec_Lex.j1 k x0 x4 x5 false))))))) else (none)) else (some (x4, (-1)))
def spec_Lex.j2 : Nat → ByteArray → List (S30) → Int → Int → Int → ByteArray → Int → Int → Option ((List (S30)) × Int)
 | 0, _, _, _, _, _, _, _, _ => none
 | k + 1, x0, x4, x5, x7, x161000, x161001, x161002, x161003 => if x7 < 0 then (some (([] : List (S30)), x5)) else (if x4.length < 3518437208883 then ((spec_l3blank.f k x0 x7).bind fun t192 => (spec_Lex.l0 k x0 (x4 ++ [(⟨x161000, x161001, x161002, x161003⟩ : S30)]) t192)) else (none))
def spec_Lex.j1 : Nat → ByteArray → List (S30) → Int → Bool → Option ((List (S30)) × Int)
 | 0, _, _, _, _ => none
 | k + 1, x0, x4, x5, x56 => if x56 = true then ((spec_l3re.f k x0 x5).bind fun bt179 => (spec_Lex.j2 k x0 x4 x5 bt179.2.2.2.2 bt179.1 bt179.2.1 bt179.2.2.1 bt179.2.2.2.1)) else ((spec_l3sign.f k x0 x5).bind fun bt184 => (spec_Lex.j2 k x0 x4 x5 bt184.2.2.2.2 bt184.1 bt184.2.1 bt184.2.2.1 bt184.2.2.2.1))
end
def spec_Lex.f (k : Nat) (a0 : ByteArray) : Option ((List (S30)) × Int) := if (a0.size : Int) > 4000 then (some (([] : List (S30)), 0)) else ((spec_l3blank.f k a0 0).bind fun t159 => (spec_Lex.l0 k a0 ([] : List (S30)) t159))
theorem spec_Lex.mono_l : ∀ k, (∀ y0 y1 y2, LeO (spec_Lex.l0 k y0 y1 y2) (spec_Lex.l0 (k + 1) y0 y1 y2)) ∧ (∀ y0 y1 y2 y3 y4 y5 y6 y7, LeO (spec_Lex.j2 k y0 y1 y2 y3 y4 y5 y6 y7) (spec_Lex.j2 (k + 1) y0 y1 y2 y3 y4 y5 y6 y7)) ∧ (∀ y0 y1 y2 y3, LeO (spec_Lex.j1 k y0 y1 y2 y3) (spec_Lex.j1 (k + 1) y0 y1 y2 y3))
 | 0 => ⟨fun _ _ _ r h => by simp [spec_Lex.l0] at h, fun _ _ _ _ _ _ _ _ r h => by simp [spec_Lex.j2] at h, fun _ _ _ _ r h => by simp [spec_Lex.j1] at h⟩
 | k + 1 => by
  obtain ⟨ih0, ih1, ih2⟩ := spec_Lex.mono_l k
  refine ⟨?_, ?_, ?_⟩
  ·
   intro y0 y1 y2
   unfold spec_Lex.l0
   repeat' first
   | (with_reducible exact ih0 _ _ _)
   | (with_reducible exact ih1 _ _ _ _ _ _ _ _)
   | (with_reducible exact ih2 _ _ _ _)
   | (with_reducible exact spec_l3blank.mono _ _ _)
   | (with_reducible exact spec_l3name.mono _ _ _)
   | (with_reducible exact spec_l3num.mono _ _ _)
   | (with_reducible exact spec_l3re.mono _ _ _)
   | (with_reducible exact spec_l3sign.mono _ _ _)
   | (with_reducible exact spec_l3str.mono _ _ _)
   | (with_reducible exact LeO.refl _)
   | (with_reducible exact LeO.none _)
   | (with_reducible refine LeO.ite ?_ ?_)
   | (with_reducible refine LeO.bind ?_ (fun _ => ?_))
   | exact ih0 _ _ _
   | exact ih1 _ _ _ _ _ _ _ _
   | exact ih2 _ _ _ _
   | exact spec_l3blank.mono _ _ _
   | exact spec_l3name.mono _ _ _
   | exact spec_l3num.mono _ _ _
   | exact spec_l3re.mono _ _ _
   | exact spec_l3sign.mono _ _ _
   | exact spec_l3str.mono _ _ _
   | exact LeO.none _
   | refine LeO.ite ?_ ?_
   | refine LeO.bind ?_ (fun _ => ?_)
  ·
   intro y0 y1 y2 y3 y4 y5 y6 y7
   unfold spec_Lex.j2
   repeat' first
   | (with_reducible exact ih0 _ _ _)
   | (with_reducible exact ih1 _ _ _ _ _ _ _ _)
   | (with_reducible exact ih2 _ _ _ _)
   | (with_reducible exact spec_l3blank.mono _ _ _)
   | (with_reducible exact spec_l3name.mono _ _ _)
   | (with_reducible exact spec_l3num.mono _ _ _)
   | (with_reducible exact spec_l3re.mono _ _ _)
   | (with_reducible exact spec_l3sign.mono _ _ _)
   | (with_reducible exact spec_l3str.mono _ _ _)
   | (with_reducible exact LeO.refl _)
   | (with_reducible exact LeO.none _)
   | (with_reducible refine LeO.ite ?_ ?_)
   | (with_reducible refine LeO.bind ?_ (fun _ => ?_))
   | exact ih0 _ _ _
   | exact ih1 _ _ _ _ _ _ _ _
   | exact ih2 _ _ _ _
   | exact spec_l3blank.mono _ _ _
   | exact spec_l3name.mono _ _ _
   | exact spec_l3num.mono _ _ _
   | exact spec_l3re.mono _ _ _
   | exact spec_l3sign.mono _ _ _
   | exact spec_l3str.mono _ _ _
   | exact LeO.none _
   | refine LeO.ite ?_ ?_
   | refine LeO.bind ?_ (fun _ => ?_)
  ·
   intro y0 y1 y2 y3
   unfold spec_Lex.j1
   repeat' first
   | (with_reducible exact ih0 _ _ _)
   | (with_reducible exact ih1 _ _ _ _ _ _ _ _)
   | (with_reducible exact ih2 _ _ _ _)
   | (with_reducible exact spec_l3blank.mono _ _ _)
   | (with_reducible exact spec_l3name.mono _ _ _)
   | (with_reducible exact spec_l3num.mono _ _ _)
   | (with_reducible exact spec_l3re.mono _ _ _)
   | (with_reducible exact spec_l3sign.mono _ _ _)
   | (with_reducible exact spec_l3str.mono _ _ _)
   | (with_reducible exact LeO.refl _)
   | (with_reducible exact LeO.none _)
   | (with_reducible refine LeO.ite ?_ ?_)
   | (with_reducible refine LeO.bind ?_ (fun _ => ?_))
   | exact ih0 _ _ _
   | exact ih1 _ _ _ _ _ _ _ _
   | exact ih2 _ _ _ _
   | exact spec_l3blank.mono _ _ _
   | exact spec_l3name.mono _ _ _
   | exact spec_l3num.mono _ _ _
   | exact spec_l3re.mono _ _ _
   | exact spec_l3sign.mono _ _ _
   | exact spec_l3str.mono _ _ _
   | exact LeO.none _
   | refine LeO.ite ?_ ?_
   | refine LeO.bind ?_ (fun _ => ?_)
theorem spec_Lex.mono : ∀ a0 k, LeO (spec_Lex.f k a0) (spec_Lex.f (k + 1) a0) := by
 intro a0 k
 obtain ⟨ih0, ih1, ih2⟩ := spec_Lex.mono_l k
 unfold spec_Lex.f
 repeat' first
   | (with_reducible exact ih0 _ _ _)
   | (with_reducible exact ih1 _ _ _ _ _ _ _ _)
   | (with_reducible exact ih2 _ _ _ _)
   | (with_reducible exact spec_l3blank.mono _ _ _)
   | (with_reducible exact spec_l3name.mono _ _ _)
   | (with_reducible exact spec_l3num.mono _ _ _)
   | (with_reducible exact spec_l3re.mono _ _ _)
   | (with_reducible exact spec_l3sign.mono _ _ _)
   | (with_reducible exact spec_l3str.mono _ _ _)
   | (with_reducible exact LeO.refl _)
   | (with_reducible exact LeO.none _)
   | (with_reducible refine LeO.ite ?_ ?_)
   | (with_reducible refine LeO.bind ?_ (fun _ => ?_))
   | exact ih0 _ _ _
   | exact ih1 _ _ _ _ _ _ _ _
   | exact ih2 _ _ _ _
   | exact spec_l3blank.mono _ _ _
   | exact spec_l3name.mono _ _ _
   | exact spec_l3num.mono _ _ _
   | exact spec_l3re.mono _ _ _
   | exact spec_l3sign.mono _ _ _
   | exact spec_l3str.mono _ _ _
   | exact LeO.none _
   | refine LeO.ite ?_ ?_
   | refine LeO.bind ?_ (fun _ => ?_)
set_option maxHeartbeats 8000000 in
set_option maxRecDepth 100000 in
theorem spec_Lex.calls (k : Nat) (a0 : ByteArray) (r1 : List (S30)) (r2 : Int) (w : World) (h : spec_Lex.f k a0 = some (r1, r2)) :
  Calls Tryd.prog 4 #[.string a0] w fun e w' => ∃ v0_ : Value, e = .returned (.tuple #[v0_, .int .i64 r2]) ∧ Kd.R k30 30 w' w.heap.size (fun _ => True) v0_ r1 ∧ Below w.heap.size w w' := by
 have hu30 := Tryd.underlying30
 have HB := Aside0.mk (Below.refl w.heap.size w)
 have H : (if (a0.size : Int) > 4000 then (some (([] : List (S30)), 0)) else ((spec_l3blank.f k a0 0).bind fun t159 => (spec_Lex.l0 k a0 ([] : List (S30)) t159))) = some (r1, r2) := h
 clear h
 by_cases c2 : (a0.size : Int) > 4000
 ·
  rw [if_pos c2] at H
  have c2b0 : decide (4000 < (a0.size : Int)) = true := decide_eq_true c2
  have c2b1 : decide (4000 < a0.size) = true := decide_eq_true (by omega)
  clear c2
  simp only [Option.some.injEq, Prod.mk.injEq] at H
  obtain ⟨rfl, rfl⟩ := H
  go_enter Tryd.func4, Tryd.ntmps4
  go_wp2
  go_ret2
  exact ⟨_, retK, by first | exact Kd.R_nil _ _ _ _ _ | exact Kd.N_nil _ _ _ _ _ | exact Kd.V_nil _ _ _ _ _ | exact Kd.Q_nil _ _ _ _ _ | exact Kd.S_nil _ _ _ _ _, carH HB.out⟩
 ·
  rw [if_neg c2] at H
  have c2b0 : decide (4000 < (a0.size : Int)) = false := decide_eq_false c2
  have c2b1 : decide (4000 < a0.size) = false := decide_eq_false (by omega)
  clear c2
  replace H := Option.bind_eq_some_iff.mp H
  obtain ⟨t159, A30, H⟩ := H
  replace H : (spec_Lex.l0 k a0 ([] : List (S30)) t159) = some (r1, r2) := H
  have A3 := Aside0.mk A30
  clear A30
  have H' := Aside0.mk H
  clear H
  go_enter Tryd.func4, Tryd.ntmps4
  go_wp2_with (first | ((with_reducible refine gate_callee (f := 9) rfl ?_); refine goesL_ (some 12) rfl rfl Tryd.func9 (by kernel_rfl) rfl #[.string a0, .int .i64 0] rfl mapK ?_; (with_reducible refine (spec_l3blank.calls k a0 0 t159 _ A3.out).mono ?_); rintro e w' ⟨rfl, ⟨nd, rfl⟩⟩; refine ⟨_, rfl, ?_⟩))
  go_loopg [4, 5] k (fun kq v4 v5 w' => ∃ (x4_1 : List (S30)) (x5_1 : Int), v5 = .int .i64 x5_1 ∧ Aside0 (spec_Lex.l0 kq a0 x4_1 x5_1 = some (r1, r2)) ∧ Aside0 (kq ≤ k) ∧ Aside0 (Kd.R k30 30 w' w.heap.size (fun _ => True) v4 x4_1) ∧ Aside0 (Below w.heap.size w w'))
  case atStart => exact ⟨(([] : List (S30))), (t159), argK, H', ⟨Nat.le_refl _⟩, ⟨by first | exact Kd.R_nil _ _ _ _ _ | exact Kd.N_nil _ _ _ _ _ | exact Kd.V_nil _ _ _ _ _ | exact Kd.Q_nil _ _ _ _ _ | exact Kd.S_nil _ _ _ _ _⟩, ⟨carH HB.out⟩⟩
  case round =>
   clear H'
   try clear c2
   try clear c2b0
   try clear c2b1
   try clear p2
   obtain ⟨x4_1, x5_1, rfl, HA, HK1, HO_4, HB⟩ := hrel
   cases gk with
   | zero => exact absurd HA.out (by simp [spec_Lex.l0])
   | succ k1 =>
    have H := HA.out
    clear HA
    simp only [spec_Lex.l0] at H
    by_cases c4 : x5_1 < (a0.size : Int)
    ·
     rw [if_pos c4] at H
     have c4b0 : decide (x5_1 < (a0.size : Int)) = true := decide_eq_true c4
     clear c4
     have HC5 := Aside0.mk H
     clear H
     go_upto_block 2 with (first | ((with_reducible refine gate_dst (N := 6) rfl ?_); refine box_event ?hg (N := 6) ?hd (cs := #[.int .i64 0, .string (⟨#[]⟩ : ByteArray), .int .i64 0, .int .i64 0]) (t := 30) ?hr ?_; (case hd => rfl); (case hg => rfl); (case hr => first | (go_simp; done) | (go_simp; rfl)); intro gb160 hg w6 hbox hb; have n0_ := Aside0.mk (Kd.R_below (Kd.R_elderB (carR HO_4.out) gb160 (Nat.le_of_eq hg.symm)) hb); have n1_ := Aside0.mk (below_step (carH HB.out) hb); have n2_ := Aside0.mk (hbox); have n3_ := Aside0.mk ((by rw [hg]; exact (below_size (carH HB.out)) : w.heap.size ≤ gb160)); have n4_ := Aside0.mk ((by rw [hg]; exact (below_size (carH HB.out)) : w.heap.size ≤ gb160)); clear HO_4; clear HB; have HO_4 := n0_; have HB := n1_; have BK160 := n2_; have GW160 := n3_; have GE160 := n4_; clear n0_ n1_ n2_ n3_ n4_; clear hb hbox hg))
     (try simp only [Act.put, List.setIfInBounds_toArray, List.set_cons_zero, List.set_cons_succ])
     go_cut [7] (fun v7 wc => ∃ (kq : Nat) (x7_4 : Int) (x161000_4 : Int) (x161001_4 : ByteArray) (x161002_4 : Int) (x161003_4 : Int), v7 = .int .i64 x7_4 ∧ Aside0 (spec_Lex.j2 kq a0 x4_1 x5_1 x7_4 x161000_4 x161001_4 x161002_4 x161003_4 = some (r1, r2)) ∧ Aside0 (kq ≤ k1) ∧ Aside0 (Kd.R k30 30 wc w.heap.size (fun k_ => k_ ≠ gb160) u4 x4_1) ∧ Aside0 (wc.heap[gb160]? = some (.cells #[.int .i64 x161000_4, .string x161001_4, .int .i64 x161002_4, .int .i64 x161003_4] 30 (0, 0))) ∧ Aside0 (Below w.heap.size w wc))
     case first =>
      have H := HC5.out
      clear HC5
      by_cases c7 : 0 ≤ x5_1
      ·
       rw [if_pos c7] at H
       have c7b0 : decide (0 ≤ x5_1) = true := decide_eq_true c7
       clear c7
       (first | rw [c7b0] | (simp only [i64_w, i32_w]; rw [c7b0]) | skip)
       replace H := Option.bind_eq_some_iff.mp H
       obtain ⟨t161, A90, H⟩ := H
       replace H : (if t161 = true then ((spec_l3num.f k1 a0 x5_1).bind fun bt162 => (spec_Lex.j2 k1 a0 x4_1 x5_1 bt162.2.2.2.2 bt162.1 bt162.2.1 bt162.2.2.1 bt162.2.2.2.1)) else (if (bt a0 x5_1) = 34 then ((spec_l3str.f k1 a0 x5_1).bind fun bt167 => (spec_Lex.j2 k1 a0 x4_1 x5_1 bt167.2.2.2.2 bt167.1 bt167.2.1 bt167.2.2.1 bt167.2.2.2.1)) else ((spec_l3letter.f (bt a0 x5_1)).bind fun t172 => (if t172 = true then ((spec_l3name.f k1 a0 x5_1).bind fun bt173 => (spec_Lex.j2 k1 a0 x4_1 x5_1 bt173.2.2.2.2 bt173.1 bt173.2.1 bt173.2.2.1 bt173.2.2.2.1)) else (if (bt a0 x5_1) = 47 then ((spec_l3operand.f x4_1).bind fun t178 => (spec_Lex.j1 k1 a0 x4_1 x5_1 (!t178))) else (spec_Lex.j1 k1 a0 x4_1 x5_1 false)))))) = some (r1, r2) := H
       have A9 := Aside0.mk A90
       clear A90
       by_cases c10 : t161 = true
       ·
        subst c10
        have H1 : ((spec_l3num.f k1 a0 x5_1).bind fun bt162 => (spec_Lex.j2 k1 a0 x4_1 x5_1 bt162.2.2.2.2 bt162.1 bt162.2.1 bt162.2.2.1 bt162.2.2.2.1)) = some (r1, r2) := by rw [if_pos rfl] at H; exact H
        clear H
        have H := H1
        clear H1
        replace H := Option.bind_eq_some_iff.mp H
        obtain ⟨⟨t162, t163, t164, t165, t166⟩, A110, H⟩ := H
        replace H : (spec_Lex.j2 k1 a0 x4_1 x5_1 t166 t162 t163 t164 t165) = some (r1, r2) := H
        have A11 := Aside0.mk A110
        clear A110
        have H' := Aside0.mk H
        clear H
        have p8 : 0 ≤ (x5_1 : Int) := dA
        have q8 : x5_1 < (a0.size : Int) := dA
        have hx8 := bt_at a0 x5_1
        replace p8 := eq_true p8
        replace q8 := eq_true q8
        go_wp2_with (first | ((with_reducible refine gate_callee (f := 10) rfl ?_); refine goesL_ (some 27) rfl rfl Tryd.func10 (by kernel_rfl) rfl #[.int .u8 (bt a0 x5_1)] rfl mapK ?_; (with_reducible refine (spec_l1digit.calls (bt a0 x5_1) true _ A9.out).mono ?_); rintro e w' ⟨rfl, ⟨nd, rfl⟩⟩; refine ⟨_, rfl, ?_⟩; (try (rw [drewN_self w6]; generalize hq_ : World.drewN w6 _ = w6; have n0_ : Aside0 (Kd.R k30 30 w6 w.heap.size (fun k_ => k_ ≠ gb160) u4 x4_1) := ⟨by rw [← hq_]; exact (by (with_reducible repeat (first | apply Kd.R_alloc | apply Kd.R_drewN | apply Kd.R_drew)); exact Kd.R_mono HO_4.out (fun _ hk => hk.2))⟩; have n1_ : Aside0 (w6.heap[gb160]? = some (.cells #[.int .i64 0, .string (⟨#[]⟩ : ByteArray), .int .i64 0, .int .i64 0] 30 (0, 0))) := ⟨by rw [← hq_]; exact (carB BK160.out)⟩; have n2_ : Aside0 (Below w.heap.size w w6) := ⟨by rw [← hq_]; exact (carH HB.out)⟩; clear HO_4 BK160 HB hq_; have HO_4 := n0_; have BK160 := n1_; have HB := n2_; clear n0_ n1_ n2_))) | ((with_reducible refine gate_callee (f := 11) rfl ?_); refine goesL_ (some 31) rfl rfl Tryd.func11 (by kernel_rfl) rfl #[.string a0, .int .i64 x5_1] rfl mapK ?_; (with_reducible refine (spec_l3num.calls k1 a0 x5_1 t162 t163 t164 t165 t166 _ A11.out).mono ?_); rintro e w12 ⟨rfl, hb⟩; refine ⟨_, rfl, ?_⟩; have n0_ := Aside0.mk (Kd.R_below (carR HO_4.out) hb); have n1_ := Aside0.mk (blk_below (g := gb160) (o := .cells #[.int .i64 0, .string (⟨#[]⟩ : ByteArray), .int .i64 0, .int .i64 0] 30 (0, 0)) (carB BK160.out) hb); have n2_ := Aside0.mk (below_step (carH HB.out) hb); clear HO_4; clear BK160; clear HB; have HO_4 := n0_; have BK160 := n1_; have HB := n2_; clear n0_ n1_ n2_; (try clear hb); (try clear hb2); (try clear hk); (try clear hi); have hcz13_0 : w12.cell? ⟨gb160, 0, none⟩ = some (.int .i64 0) := (blk_cell BK160.out 0).trans rfl; have hcz13_1 : w12.cell? ⟨gb160, 1, none⟩ = some (.string (⟨#[]⟩ : ByteArray)) := (blk_cell BK160.out 1).trans rfl; have hcz13_2 : w12.cell? ⟨gb160, 2, none⟩ = some (.int .i64 0) := (blk_cell BK160.out 2).trans rfl; have hcz13_3 : w12.cell? ⟨gb160, 3, none⟩ = some (.int .i64 0) := (blk_cell BK160.out 3).trans rfl; have hfz13_0 := blk_frozen BK160.out 0; have hfz13_1 := blk_frozen BK160.out 1; have hfz13_2 := blk_frozen BK160.out 2; have hfz13_3 := blk_frozen BK160.out 3))
        go_meet
        case rel => exact ⟨_, (t166), (t162), (t163), (t164), (t165), argK, H', ⟨by have := HK1.out; first | omega | exact Nat.le_refl _⟩, ⟨by (with_reducible repeat (first | apply Kd.R_alloc | apply Kd.R_drewN | apply Kd.R_drew)); exact Kd.R_mono (Kd.R_far (p := ⟨gb160, 3, none⟩) (Kd.R_far (p := ⟨gb160, 2, none⟩) (Kd.R_far (p := ⟨gb160, 1, none⟩) (Kd.R_far (p := ⟨gb160, 0, none⟩) (Kd.R_mono HO_4.out (fun k_ hk => (⟨hk, by first | exact hk.2 | exact hk⟩ : _ ∧ k_ ≠ gb160))) (fun _ hk => hk.2) (.int .i64 t162)) (fun _ hk => hk.2) (.string t163)) (fun _ hk => hk.2) (.int .i64 t164)) (fun _ hk => hk.2) (.int .i64 t165)) (fun _ hk => by first | exact hk.1.2 | exact hk.1 | exact hk.2)⟩, ⟨by (with_reducible repeat (first | refine blk_drewN ?_ _ | refine blk_drew ?_ | refine blk_alloc ?_ _)); refine blk_put (cs := #[.int .i64 t162, .string t163, .int .i64 t164, .int .i64 0]) ?_ 3 _ rfl; (with_reducible repeat (first | refine blk_drewN ?_ _ | refine blk_drew ?_ | refine blk_alloc ?_ _)); refine blk_put (cs := #[.int .i64 t162, .string t163, .int .i64 0, .int .i64 0]) ?_ 2 _ rfl; (with_reducible repeat (first | refine blk_drewN ?_ _ | refine blk_drew ?_ | refine blk_alloc ?_ _)); refine blk_put (cs := #[.int .i64 t162, .string (⟨#[]⟩ : ByteArray), .int .i64 0, .int .i64 0]) ?_ 1 _ rfl; (with_reducible repeat (first | refine blk_drewN ?_ _ | refine blk_drew ?_ | refine blk_alloc ?_ _)); refine blk_put (cs := #[.int .i64 0, .string (⟨#[]⟩ : ByteArray), .int .i64 0, .int .i64 0]) ?_ 0 _ rfl; (with_reducible repeat (first | refine blk_drewN ?_ _ | refine blk_drew ?_ | refine blk_alloc ?_ _)); exact BK160.out⟩, ⟨carH HB.out⟩⟩
       ·
        replace c10 := Bool.eq_false_iff.mpr c10
        subst c10
        have H1 : (if (bt a0 x5_1) = 34 then ((spec_l3str.f k1 a0 x5_1).bind fun bt167 => (spec_Lex.j2 k1 a0 x4_1 x5_1 bt167.2.2.2.2 bt167.1 bt167.2.1 bt167.2.2.1 bt167.2.2.2.1)) else ((spec_l3letter.f (bt a0 x5_1)).bind fun t172 => (if t172 = true then ((spec_l3name.f k1 a0 x5_1).bind fun bt173 => (spec_Lex.j2 k1 a0 x4_1 x5_1 bt173.2.2.2.2 bt173.1 bt173.2.1 bt173.2.2.1 bt173.2.2.2.1)) else (if (bt a0 x5_1) = 47 then ((spec_l3operand.f x4_1).bind fun t178 => (spec_Lex.j1 k1 a0 x4_1 x5_1 (!t178))) else (spec_Lex.j1 k1 a0 x4_1 x5_1 false))))) = some (r1, r2) := by rw [if_neg (show ¬ (false = true) by decide)] at H; exact H
        clear H
        have H := H1
        clear H1
        by_cases c15 : (bt a0 x5_1) = 34
        ·
         rw [if_pos c15] at H
         have c15b0 : ((bt a0 x5_1) == 34) = true := beq_iff_eq.mpr c15
         have c15b1 : ((bt a0 x5_1) != 34) = false := bne_eq_false_iff_eq.mpr c15
         clear c15
         replace H := Option.bind_eq_some_iff.mp H
         obtain ⟨⟨t167, t168, t169, t170, t171⟩, A160, H⟩ := H
         replace H : (spec_Lex.j2 k1 a0 x4_1 x5_1 t171 t167 t168 t169 t170) = some (r1, r2) := H
         have A16 := Aside0.mk A160
         clear A160
         have H' := Aside0.mk H
         clear H
         have p8 : 0 ≤ (x5_1 : Int) := dA
         have q8 : x5_1 < (a0.size : Int) := dA
         have hx8 := bt_at a0 x5_1
         replace p8 := eq_true p8
         replace q8 := eq_true q8
         go_wp2_with (first | ((with_reducible refine gate_callee (f := 10) rfl ?_); refine goesL_ (some 27) rfl rfl Tryd.func10 (by kernel_rfl) rfl #[.int .u8 (bt a0 x5_1)] rfl mapK ?_; (with_reducible refine (spec_l1digit.calls (bt a0 x5_1) false _ A9.out).mono ?_); rintro e w' ⟨rfl, ⟨nd, rfl⟩⟩; refine ⟨_, rfl, ?_⟩; (try (rw [drewN_self w6]; generalize hq_ : World.drewN w6 _ = w6; have n0_ : Aside0 (Kd.R k30 30 w6 w.heap.size (fun k_ => k_ ≠ gb160) u4 x4_1) := ⟨by rw [← hq_]; exact (by (with_reducible repeat (first | apply Kd.R_alloc | apply Kd.R_drewN | apply Kd.R_drew)); exact Kd.R_mono HO_4.out (fun _ hk => hk.2))⟩; have n1_ : Aside0 (w6.heap[gb160]? = some (.cells #[.int .i64 0, .string (⟨#[]⟩ : ByteArray), .int .i64 0, .int .i64 0] 30 (0, 0))) := ⟨by rw [← hq_]; exact (carB BK160.out)⟩; have n2_ : Aside0 (Below w.heap.size w w6) := ⟨by rw [← hq_]; exact (carH HB.out)⟩; clear HO_4 BK160 HB hq_; have HO_4 := n0_; have BK160 := n1_; have HB := n2_; clear n0_ n1_ n2_)); have p14 : 0 ≤ (x5_1 : Int) := dA; have q14 : x5_1 < (a0.size : Int) := dA; have hx14 := bt_at a0 x5_1; replace p14 := eq_true p14; replace q14 := eq_true q14) | ((with_reducible refine gate_callee (f := 12) rfl ?_); refine goesL_ (some 42) rfl rfl Tryd.func12 (by kernel_rfl) rfl #[.string a0, .int .i64 x5_1] rfl mapK ?_; (with_reducible refine (spec_l3str.calls k1 a0 x5_1 t167 t168 t169 t170 t171 _ A16.out).mono ?_); rintro e w17 ⟨rfl, hb⟩; refine ⟨_, rfl, ?_⟩; have n0_ := Aside0.mk (Kd.R_below (carR HO_4.out) hb); have n1_ := Aside0.mk (blk_below (g := gb160) (o := .cells #[.int .i64 0, .string (⟨#[]⟩ : ByteArray), .int .i64 0, .int .i64 0] 30 (0, 0)) (carB BK160.out) hb); have n2_ := Aside0.mk (below_step (carH HB.out) hb); clear HO_4; clear BK160; clear HB; have HO_4 := n0_; have BK160 := n1_; have HB := n2_; clear n0_ n1_ n2_; (try clear hb); (try clear hb2); (try clear hk); (try clear hi); have hcz18_0 : w17.cell? ⟨gb160, 0, none⟩ = some (.int .i64 0) := (blk_cell BK160.out 0).trans rfl; have hcz18_1 : w17.cell? ⟨gb160, 1, none⟩ = some (.string (⟨#[]⟩ : ByteArray)) := (blk_cell BK160.out 1).trans rfl; have hcz18_2 : w17.cell? ⟨gb160, 2, none⟩ = some (.int .i64 0) := (blk_cell BK160.out 2).trans rfl; have hcz18_3 : w17.cell? ⟨gb160, 3, none⟩ = some (.int .i64 0) := (blk_cell BK160.out 3).trans rfl; have hfz18_0 := blk_frozen BK160.out 0; have hfz18_1 := blk_frozen BK160.out 1; have hfz18_2 := blk_frozen BK160.out 2; have hfz18_3 := blk_frozen BK160.out 3))
         go_meet
         case rel => exact ⟨_, (t171), (t167), (t168), (t169), (t170), argK, H', ⟨by have := HK1.out; first | omega | exact Nat.le_refl _⟩, ⟨by (with_reducible repeat (first | apply Kd.R_alloc | apply Kd.R_drewN | apply Kd.R_drew)); exact Kd.R_mono (Kd.R_far (p := ⟨gb160, 3, none⟩) (Kd.R_far (p := ⟨gb160, 2, none⟩) (Kd.R_far (p := ⟨gb160, 1, none⟩) (Kd.R_far (p := ⟨gb160, 0, none⟩) (Kd.R_mono HO_4.out (fun k_ hk => (⟨hk, by first | exact hk.2 | exact hk⟩ : _ ∧ k_ ≠ gb160))) (fun _ hk => hk.2) (.int .i64 t167)) (fun _ hk => hk.2) (.string t168)) (fun _ hk => hk.2) (.int .i64 t169)) (fun _ hk => hk.2) (.int .i64 t170)) (fun _ hk => by first | exact hk.1.2 | exact hk.1 | exact hk.2)⟩, ⟨by (with_reducible repeat (first | refine blk_drewN ?_ _ | refine blk_drew ?_ | refine blk_alloc ?_ _)); refine blk_put (cs := #[.int .i64 t167, .string t168, .int .i64 t169, .int .i64 0]) ?_ 3 _ rfl; (with_reducible repeat (first | refine blk_drewN ?_ _ | refine blk_drew ?_ | refine blk_alloc ?_ _)); refine blk_put (cs := #[.int .i64 t167, .string t168, .int .i64 0, .int .i64 0]) ?_ 2 _ rfl; (with_reducible repeat (first | refine blk_drewN ?_ _ | refine blk_drew ?_ | refine blk_alloc ?_ _)); refine blk_put (cs := #[.int .i64 t167, .string (⟨#[]⟩ : ByteArray), .int .i64 0, .int .i64 0]) ?_ 1 _ rfl; (with_reducible repeat (first | refine blk_drewN ?_ _ | refine blk_drew ?_ | refine blk_alloc ?_ _)); refine blk_put (cs := #[.int .i64 0, .string (⟨#[]⟩ : ByteArray), .int .i64 0, .int .i64 0]) ?_ 0 _ rfl; (with_reducible repeat (first | refine blk_drewN ?_ _ | refine blk_drew ?_ | refine blk_alloc ?_ _)); exact BK160.out⟩, ⟨carH HB.out⟩⟩
        ·
         rw [if_neg c15] at H
         have c15b0 : ((bt a0 x5_1) == 34) = false := beq_eq_false_iff_ne.mpr c15
         have c15b1 : ((bt a0 x5_1) != 34) = true := bne_iff_ne.mpr c15
         replace H := Option.bind_eq_some_iff.mp H
         obtain ⟨t172, A200, H⟩ := H
         replace H : (if t172 = true then ((spec_l3name.f k1 a0 x5_1).bind fun bt173 => (spec_Lex.j2 k1 a0 x4_1 x5_1 bt173.2.2.2.2 bt173.1 bt173.2.1 bt173.2.2.1 bt173.2.2.2.1)) else (if (bt a0 x5_1) = 47 then ((spec_l3operand.f x4_1).bind fun t178 => (spec_Lex.j1 k1 a0 x4_1 x5_1 (!t178))) else (spec_Lex.j1 k1 a0 x4_1 x5_1 false))) = some (r1, r2) := H
         have A20 := Aside0.mk A200
         clear A200
         by_cases c21 : t172 = true
         ·
          subst c21
          have H1 : ((spec_l3name.f k1 a0 x5_1).bind fun bt173 => (spec_Lex.j2 k1 a0 x4_1 x5_1 bt173.2.2.2.2 bt173.1 bt173.2.1 bt173.2.2.1 bt173.2.2.2.1)) = some (r1, r2) := by rw [if_pos rfl] at H; exact H
          clear H
          have H := H1
          clear H1
          replace H := Option.bind_eq_some_iff.mp H
          obtain ⟨⟨t173, t174, t175, t176, t177⟩, A220, H⟩ := H
          replace H : (spec_Lex.j2 k1 a0 x4_1 x5_1 t177 t173 t174 t175 t176) = some (r1, r2) := H
          have A22 := Aside0.mk A220
          clear A220
          have H' := Aside0.mk H
          clear H
          have p8 : 0 ≤ (x5_1 : Int) := dA
          have q8 : x5_1 < (a0.size : Int) := dA
          have hx8 := bt_at a0 x5_1
          replace p8 := eq_true p8
          replace q8 := eq_true q8
          go_wp2_with (first | ((with_reducible refine gate_callee (f := 10) rfl ?_); refine goesL_ (some 27) rfl rfl Tryd.func10 (by kernel_rfl) rfl #[.int .u8 (bt a0 x5_1)] rfl mapK ?_; (with_reducible refine (spec_l1digit.calls (bt a0 x5_1) false _ A9.out).mono ?_); rintro e w' ⟨rfl, ⟨nd, rfl⟩⟩; refine ⟨_, rfl, ?_⟩; (try (rw [drewN_self w6]; generalize hq_ : World.drewN w6 _ = w6; have n0_ : Aside0 (Kd.R k30 30 w6 w.heap.size (fun k_ => k_ ≠ gb160) u4 x4_1) := ⟨by rw [← hq_]; exact (by (with_reducible repeat (first | apply Kd.R_alloc | apply Kd.R_drewN | apply Kd.R_drew)); exact Kd.R_mono HO_4.out (fun _ hk => hk.2))⟩; have n1_ : Aside0 (w6.heap[gb160]? = some (.cells #[.int .i64 0, .string (⟨#[]⟩ : ByteArray), .int .i64 0, .int .i64 0] 30 (0, 0))) := ⟨by rw [← hq_]; exact (carB BK160.out)⟩; have n2_ : Aside0 (Below w.heap.size w w6) := ⟨by rw [← hq_]; exact (carH HB.out)⟩; clear HO_4 BK160 HB hq_; have HO_4 := n0_; have BK160 := n1_; have HB := n2_; clear n0_ n1_ n2_)); have p14 : 0 ≤ (x5_1 : Int) := dA; have q14 : x5_1 < (a0.size : Int) := dA; have hx14 := bt_at a0 x5_1; replace p14 := eq_true p14; replace q14 := eq_true q14; have p19 : 0 ≤ (x5_1 : Int) := dA; have q19 : x5_1 < (a0.size : Int) := dA; have hx19 := bt_at a0 x5_1; replace p19 := eq_true p19; replace q19 := eq_true q19) | ((with_reducible refine gate_callee (f := 13) rfl ?_); refine goesL_ (some 49) rfl rfl Tryd.func13 (by kernel_rfl) rfl #[.int .u8 (bt a0 x5_1)] rfl mapK ?_; (with_reducible refine (spec_l3letter.calls (bt a0 x5_1) true _ A20.out).mono ?_); rintro e w' ⟨rfl, ⟨nd, rfl⟩⟩; refine ⟨_, rfl, ?_⟩; (try (rw [drewN_self w6]; generalize hq_ : World.drewN w6 _ = w6; have n0_ : Aside0 (Kd.R k30 30 w6 w.heap.size (fun k_ => k_ ≠ gb160) u4 x4_1) := ⟨by rw [← hq_]; exact (by (with_reducible repeat (first | apply Kd.R_alloc | apply Kd.R_drewN | apply Kd.R_drew)); exact Kd.R_mono HO_4.out (fun _ hk => hk.2))⟩; have n1_ : Aside0 (w6.heap[gb160]? = some (.cells #[.int .i64 0, .string (⟨#[]⟩ : ByteArray), .int .i64 0, .int .i64 0] 30 (0, 0))) := ⟨by rw [← hq_]; exact (carB BK160.out)⟩; have n2_ : Aside0 (Below w.heap.size w w6) := ⟨by rw [← hq_]; exact (carH HB.out)⟩; clear HO_4 BK160 HB hq_; have HO_4 := n0_; have BK160 := n1_; have HB := n2_; clear n0_ n1_ n2_))) | ((with_reducible refine gate_callee (f := 14) rfl ?_); refine goesL_ (some 53) rfl rfl Tryd.func14 (by kernel_rfl) rfl #[.string a0, .int .i64 x5_1] rfl mapK ?_; (with_reducible refine (spec_l3name.calls k1 a0 x5_1 t173 t174 t175 t176 t177 _ A22.out).mono ?_); rintro e w23 ⟨rfl, hb⟩; refine ⟨_, rfl, ?_⟩; have n0_ := Aside0.mk (Kd.R_below (carR HO_4.out) hb); have n1_ := Aside0.mk (blk_below (g := gb160) (o := .cells #[.int .i64 0, .string (⟨#[]⟩ : ByteArray), .int .i64 0, .int .i64 0] 30 (0, 0)) (carB BK160.out) hb); have n2_ := Aside0.mk (below_step (carH HB.out) hb); clear HO_4; clear BK160; clear HB; have HO_4 := n0_; have BK160 := n1_; have HB := n2_; clear n0_ n1_ n2_; (try clear hb); (try clear hb2); (try clear hk); (try clear hi); have hcz24_0 : w23.cell? ⟨gb160, 0, none⟩ = some (.int .i64 0) := (blk_cell BK160.out 0).trans rfl; have hcz24_1 : w23.cell? ⟨gb160, 1, none⟩ = some (.string (⟨#[]⟩ : ByteArray)) := (blk_cell BK160.out 1).trans rfl; have hcz24_2 : w23.cell? ⟨gb160, 2, none⟩ = some (.int .i64 0) := (blk_cell BK160.out 2).trans rfl; have hcz24_3 : w23.cell? ⟨gb160, 3, none⟩ = some (.int .i64 0) := (blk_cell BK160.out 3).trans rfl; have hfz24_0 := blk_frozen BK160.out 0; have hfz24_1 := blk_frozen BK160.out 1; have hfz24_2 := blk_frozen BK160.out 2; have hfz24_3 := blk_frozen BK160.out 3))
          go_meet
          case rel => exact ⟨_, (t177), (t173), (t174), (t175), (t176), argK, H', ⟨by have := HK1.out; first | omega | exact Nat.le_refl _⟩, ⟨by (with_reducible repeat (first | apply Kd.R_alloc | apply Kd.R_drewN | apply Kd.R_drew)); exact Kd.R_mono (Kd.R_far (p := ⟨gb160, 3, none⟩) (Kd.R_far (p := ⟨gb160, 2, none⟩) (Kd.R_far (p := ⟨gb160, 1, none⟩) (Kd.R_far (p := ⟨gb160, 0, none⟩) (Kd.R_mono HO_4.out (fun k_ hk => (⟨hk, by first | exact hk.2 | exact hk⟩ : _ ∧ k_ ≠ gb160))) (fun _ hk => hk.2) (.int .i64 t173)) (fun _ hk => hk.2) (.string t174)) (fun _ hk => hk.2) (.int .i64 t175)) (fun _ hk => hk.2) (.int .i64 t176)) (fun _ hk => by first | exact hk.1.2 | exact hk.1 | exact hk.2)⟩, ⟨by (with_reducible repeat (first | refine blk_drewN ?_ _ | refine blk_drew ?_ | refine blk_alloc ?_ _)); refine blk_put (cs := #[.int .i64 t173, .string t174, .int .i64 t175, .int .i64 0]) ?_ 3 _ rfl; (with_reducible repeat (first | refine blk_drewN ?_ _ | refine blk_drew ?_ | refine blk_alloc ?_ _)); refine blk_put (cs := #[.int .i64 t173, .string t174, .int .i64 0, .int .i64 0]) ?_ 2 _ rfl; (with_reducible repeat (first | refine blk_drewN ?_ _ | refine blk_drew ?_ | refine blk_alloc ?_ _)); refine blk_put (cs := #[.int .i64 t173, .string (⟨#[]⟩ : ByteArray), .int .i64 0, .int .i64 0]) ?_ 1 _ rfl; (with_reducible repeat (first | refine blk_drewN ?_ _ | refine blk_drew ?_ | refine blk_alloc ?_ _)); refine blk_put (cs := #[.int .i64 0, .string (⟨#[]⟩ : ByteArray), .int .i64 0, .int .i64 0]) ?_ 0 _ rfl; (with_reducible repeat (first | refine blk_drewN ?_ _ | refine blk_drew ?_ | refine blk_alloc ?_ _)); exact BK160.out⟩, ⟨carH HB.out⟩⟩
         ·
          replace c21 := Bool.eq_false_iff.mpr c21
          subst c21
          have H1 : (if (bt a0 x5_1) = 47 then ((spec_l3operand.f x4_1).bind fun t178 => (spec_Lex.j1 k1 a0 x4_1 x5_1 (!t178))) else (spec_Lex.j1 k1 a0 x4_1 x5_1 false)) = some (r1, r2) := by rw [if_neg (show ¬ (false = true) by decide)] at H; exact H
          clear H
          have H := H1
          clear H1
          have HC25 := Aside0.mk H
          clear H
          have p8 : 0 ≤ (x5_1 : Int) := dA
          have q8 : x5_1 < (a0.size : Int) := dA
          have hx8 := bt_at a0 x5_1
          replace p8 := eq_true p8
          replace q8 := eq_true q8
          go_upto_region 15 with (first | ((with_reducible refine gate_callee (f := 10) rfl ?_); refine goesL_ (some 27) rfl rfl Tryd.func10 (by kernel_rfl) rfl #[.int .u8 (bt a0 x5_1)] rfl mapK ?_; (with_reducible refine (spec_l1digit.calls (bt a0 x5_1) false _ A9.out).mono ?_); rintro e w' ⟨rfl, ⟨nd, rfl⟩⟩; refine ⟨_, rfl, ?_⟩; have p14 : 0 ≤ (x5_1 : Int) := dA; have q14 : x5_1 < (a0.size : Int) := dA; have hx14 := bt_at a0 x5_1; replace p14 := eq_true p14; replace q14 := eq_true q14; have p19 : 0 ≤ (x5_1 : Int) := dA; have q19 : x5_1 < (a0.size : Int) := dA; have hx19 := bt_at a0 x5_1; replace p19 := eq_true p19; replace q19 := eq_true q19) | ((with_reducible refine gate_callee (f := 13) rfl ?_); refine goesL_ (some 49) rfl rfl Tryd.func13 (by kernel_rfl) rfl #[.int .u8 (bt a0 x5_1)] rfl mapK ?_; (with_reducible refine (spec_l3letter.calls (bt a0 x5_1) false _ A20.out).mono ?_); rintro e w' ⟨rfl, ⟨nd, rfl⟩⟩; refine ⟨_, rfl, ?_⟩))
          (try simp only [Act.put, List.setIfInBounds_toArray, List.set_cons_zero, List.set_cons_succ])
          go_cut [56] (fun v56 wc => ∃ (kq : Nat) (x56_24 : Bool), v56 = .bool x56_24 ∧ Aside0 (spec_Lex.j1 kq a0 x4_1 x5_1 x56_24 = some (r1, r2)) ∧ Aside0 (kq ≤ k1) ∧ Aside0 (Kd.R k30 30 wc w.heap.size (fun k_ => k_ ≠ gb160) u4 x4_1) ∧ Aside0 (wc.heap[gb160]? = some (.cells #[.int .i64 0, .string (⟨#[]⟩ : ByteArray), .int .i64 0, .int .i64 0] 30 (0, 0))) ∧ Aside0 (Below w.heap.size w wc))
          case first =>
           have H := HC25.out
           clear HC25
           by_cases c27 : (bt a0 x5_1) = 47
           ·
            rw [if_pos c27] at H
            have c27b0 : ((bt a0 x5_1) == 47) = true := beq_iff_eq.mpr c27
            have c27b1 : ((bt a0 x5_1) != 47) = false := bne_eq_false_iff_eq.mpr c27
            clear c27
            (first | rw [c27b0] | (simp only [i64_w, i32_w]; rw [c27b0]) | skip)
            replace H := Option.bind_eq_some_iff.mp H
            obtain ⟨t178, A280, H⟩ := H
            replace H : (spec_Lex.j1 k1 a0 x4_1 x5_1 (!t178)) = some (r1, r2) := H
            have A28 := Aside0.mk A280
            clear A280
            have H' := Aside0.mk H
            clear H
            have p26 : 0 ≤ (x5_1 : Int) := dA
            have q26 : x5_1 < (a0.size : Int) := dA
            have hx26 := bt_at a0 x5_1
            replace p26 := eq_true p26
            replace q26 := eq_true q26
            obtain ⟨Ao29, co29, eo29⟩ := Kd.R_slice HO_4.out
            subst eo29
            go_wp2_with (first | (go_at_call 15; (with_reducible refine (spec_l3operand.calls _ _ x4_1 t178 _ ?side1 ?side2 A28.out).mono ?_); (case side1 => repeat (first | exact (Kd.R_reads' HO_4.out).2.2 | (with_reducible refine Kd.C_alloc ?_ _) | (with_reducible refine Kd.C_drewN ?_ _) | (with_reducible refine Kd.C_drew ?_))); (case side2 => exact (Kd.R_reads' HO_4.out).2.1); rintro e w30 ⟨rfl, hb⟩; have n0_ := Aside0.mk (Kd.R_below (carR HO_4.out) hb); have n1_ := Aside0.mk (blk_below (g := gb160) (o := .cells #[.int .i64 0, .string (⟨#[]⟩ : ByteArray), .int .i64 0, .int .i64 0] 30 (0, 0)) (carB BK160.out) hb); have n2_ := Aside0.mk (below_step (carH HB.out) hb); clear HO_4; clear BK160; clear HB; have HO_4 := n0_; have BK160 := n1_; have HB := n2_; clear n0_ n1_ n2_; (try clear hb); (try clear hb2); (try clear hk); (try clear hi)))
            go_meet
            case rel => exact ⟨_, (!t178), argK, H', ⟨by have := HK1.out; first | omega | exact Nat.le_refl _⟩, ⟨by (with_reducible repeat (first | apply Kd.R_alloc | apply Kd.R_drewN | apply Kd.R_drew)); exact Kd.R_mono HO_4.out (fun _ hk => hk.2)⟩, ⟨by (with_reducible repeat (first | refine blk_drewN ?_ _ | refine blk_drew ?_ | refine blk_alloc ?_ _)); exact BK160.out⟩, ⟨carH HB.out⟩⟩
           ·
            rw [if_neg c27] at H
            have c27b0 : ((bt a0 x5_1) == 47) = false := beq_eq_false_iff_ne.mpr c27
            have c27b1 : ((bt a0 x5_1) != 47) = true := bne_iff_ne.mpr c27
            (first | rw [c27b0] | (simp only [i64_w, i32_w]; rw [c27b0]) | skip)
            have H' := Aside0.mk H
            clear H
            have p26 : 0 ≤ (x5_1 : Int) := dA
            have q26 : x5_1 < (a0.size : Int) := dA
            have hx26 := bt_at a0 x5_1
            replace p26 := eq_true p26
            replace q26 := eq_true q26
            go_wp2
            go_meet
            case rel => exact ⟨_, (false), argK, H', ⟨by have := HK1.out; first | omega | exact Nat.le_refl _⟩, ⟨by (with_reducible repeat (first | apply Kd.R_alloc | apply Kd.R_drewN | apply Kd.R_drew)); exact Kd.R_mono HO_4.out (fun _ hk => hk.2)⟩, ⟨by (with_reducible repeat (first | refine blk_drewN ?_ _ | refine blk_drew ?_ | refine blk_alloc ?_ _)); exact BK160.out⟩, ⟨carH HB.out⟩⟩
          case rest =>
           clear HC25
           try clear c1
           try clear p1
           try clear q1
           try clear hx1
           try clear c2
           try clear c2b0
           try clear c2b1
           try clear p2
           try clear q2
           try clear hx2
           try clear c4
           try clear c4b0
           try clear c7
           try clear c7b0
           try clear p8
           try clear q8
           try clear hx8
           try clear c9
           try clear c10
           try clear c11
           try clear c12
           try clear c13
           try clear c14
           try clear p14
           try clear q14
           try clear hx14
           try clear c15
           try clear c15b0
           try clear c15b1
           try clear p19
           try clear q19
           try clear hx19
           try clear c21
           try clear p26
           try clear q26
           try clear hx26
           try clear c27
           try clear c27b0
           try clear c27b1
           try clear hcz13_0
           try clear hcz13_1
           try clear hcz13_2
           try clear hcz13_3
           try clear hcz18_0
           try clear hcz18_1
           try clear hcz18_2
           try clear hcz18_3
           try clear hcz24_0
           try clear hcz24_1
           try clear hcz24_2
           try clear hcz24_3
           try clear hfz13_0
           try clear hfz13_1
           try clear hfz13_2
           try clear hfz13_3
           try clear hfz18_0
           try clear hfz18_1
           try clear hfz18_2
           try clear hfz18_3
           try clear hfz24_0
           try clear hfz24_1
           try clear hfz24_2
           try clear hfz24_3
           try clear p14
           try clear p19
           try clear p2
           try clear p26
           try clear p8
           try clear q14
           try clear q19
           try clear q26
           try clear q8
           obtain ⟨kq, x56_24, rfl, HA, HJ24, HO_4, BK160, HB⟩ := hcut
           cases kq with
           | zero => exact absurd HA.out (by simp [spec_Lex.j1])
           | succ kj24 =>
            have H := HA.out
            clear HA
            simp only [spec_Lex.j1] at H
            by_cases c31 : x56_24 = true
            ·
             subst c31
             have H1 : ((spec_l3re.f kj24 a0 x5_1).bind fun bt179 => (spec_Lex.j2 kj24 a0 x4_1 x5_1 bt179.2.2.2.2 bt179.1 bt179.2.1 bt179.2.2.1 bt179.2.2.2.1)) = some (r1, r2) := by rw [if_pos rfl] at H; exact H
             clear H
             have H := H1
             clear H1
             replace H := Option.bind_eq_some_iff.mp H
             obtain ⟨⟨t179, t180, t181, t182, t183⟩, A320, H⟩ := H
             replace H : (spec_Lex.j2 kj24 a0 x4_1 x5_1 t183 t179 t180 t181 t182) = some (r1, r2) := H
             have A32 := Aside0.mk A320
             clear A320
             have H' := Aside0.mk H
             clear H
             go_wp2_with (first | ((with_reducible refine gate_callee (f := 16) rfl ?_); refine goesL_ (some 69) rfl rfl Tryd.func16 (by kernel_rfl) rfl #[.string a0, .int .i64 x5_1] rfl mapK ?_; (with_reducible refine (spec_l3re.calls kj24 a0 x5_1 t179 t180 t181 t182 t183 _ A32.out).mono ?_); rintro e w33 ⟨rfl, hb⟩; refine ⟨_, rfl, ?_⟩; have n0_ := Aside0.mk (Kd.R_below (carR HO_4.out) hb); have n1_ := Aside0.mk (blk_below (g := gb160) (o := .cells #[.int .i64 0, .string (⟨#[]⟩ : ByteArray), .int .i64 0, .int .i64 0] 30 (0, 0)) (carB BK160.out) hb); have n2_ := Aside0.mk (below_step (carH HB.out) hb); clear HO_4; clear BK160; clear HB; have HO_4 := n0_; have BK160 := n1_; have HB := n2_; clear n0_ n1_ n2_; (try clear hb); (try clear hb2); (try clear hk); (try clear hi); have hcz34_0 : w33.cell? ⟨gb160, 0, none⟩ = some (.int .i64 0) := (blk_cell BK160.out 0).trans rfl; have hcz34_1 : w33.cell? ⟨gb160, 1, none⟩ = some (.string (⟨#[]⟩ : ByteArray)) := (blk_cell BK160.out 1).trans rfl; have hcz34_2 : w33.cell? ⟨gb160, 2, none⟩ = some (.int .i64 0) := (blk_cell BK160.out 2).trans rfl; have hcz34_3 : w33.cell? ⟨gb160, 3, none⟩ = some (.int .i64 0) := (blk_cell BK160.out 3).trans rfl; have hfz34_0 := blk_frozen BK160.out 0; have hfz34_1 := blk_frozen BK160.out 1; have hfz34_2 := blk_frozen BK160.out 2; have hfz34_3 := blk_frozen BK160.out 3))
             go_meet
             case rel => exact ⟨_, (t183), (t179), (t180), (t181), (t182), argK, H', ⟨by have := HK1.out; have := HJ24.out; first | omega | exact Nat.le_refl _⟩, ⟨by (with_reducible repeat (first | apply Kd.R_alloc | apply Kd.R_drewN | apply Kd.R_drew)); exact Kd.R_mono (Kd.R_far (p := ⟨gb160, 3, none⟩) (Kd.R_far (p := ⟨gb160, 2, none⟩) (Kd.R_far (p := ⟨gb160, 1, none⟩) (Kd.R_far (p := ⟨gb160, 0, none⟩) (Kd.R_mono HO_4.out (fun k_ hk => (⟨hk, by first | exact hk | exact hk⟩ : _ ∧ k_ ≠ gb160))) (fun _ hk => hk.2) (.int .i64 t179)) (fun _ hk => hk.2) (.string t180)) (fun _ hk => hk.2) (.int .i64 t181)) (fun _ hk => hk.2) (.int .i64 t182)) (fun _ hk => hk.1)⟩, ⟨by (with_reducible repeat (first | refine blk_drewN ?_ _ | refine blk_drew ?_ | refine blk_alloc ?_ _)); refine blk_put (cs := #[.int .i64 t179, .string t180, .int .i64 t181, .int .i64 0]) ?_ 3 _ rfl; (with_reducible repeat (first | refine blk_drewN ?_ _ | refine blk_drew ?_ | refine blk_alloc ?_ _)); refine blk_put (cs := #[.int .i64 t179, .string t180, .int .i64 0, .int .i64 0]) ?_ 2 _ rfl; (with_reducible repeat (first | refine blk_drewN ?_ _ | refine blk_drew ?_ | refine blk_alloc ?_ _)); refine blk_put (cs := #[.int .i64 t179, .string (⟨#[]⟩ : ByteArray), .int .i64 0, .int .i64 0]) ?_ 1 _ rfl; (with_reducible repeat (first | refine blk_drewN ?_ _ | refine blk_drew ?_ | refine blk_alloc ?_ _)); refine blk_put (cs := #[.int .i64 0, .string (⟨#[]⟩ : ByteArray), .int .i64 0, .int .i64 0]) ?_ 0 _ rfl; (with_reducible repeat (first | refine blk_drewN ?_ _ | refine blk_drew ?_ | refine blk_alloc ?_ _)); exact BK160.out⟩, ⟨carH HB.out⟩⟩
            ·
             replace c31 := Bool.eq_false_iff.mpr c31
             subst c31
             have H1 : ((spec_l3sign.f kj24 a0 x5_1).bind fun bt184 => (spec_Lex.j2 kj24 a0 x4_1 x5_1 bt184.2.2.2.2 bt184.1 bt184.2.1 bt184.2.2.1 bt184.2.2.2.1)) = some (r1, r2) := by rw [if_neg (show ¬ (false = true) by decide)] at H; exact H
             clear H
             have H := H1
             clear H1
             replace H := Option.bind_eq_some_iff.mp H
             obtain ⟨⟨t184, t185, t186, t187, t188⟩, A350, H⟩ := H
             replace H : (spec_Lex.j2 kj24 a0 x4_1 x5_1 t188 t184 t185 t186 t187) = some (r1, r2) := H
             have A35 := Aside0.mk A350
             clear A350
             have H' := Aside0.mk H
             clear H
             go_wp2_with (first | ((with_reducible refine gate_callee (f := 17) rfl ?_); refine goesL_ (some 20) rfl rfl Tryd.func17 (by kernel_rfl) rfl #[.string a0, .int .i64 x5_1] rfl mapK ?_; (with_reducible refine (spec_l3sign.calls kj24 a0 x5_1 t184 t185 t186 t187 t188 _ A35.out).mono ?_); rintro e w36 ⟨rfl, hb⟩; refine ⟨_, rfl, ?_⟩; have n0_ := Aside0.mk (Kd.R_below (carR HO_4.out) hb); have n1_ := Aside0.mk (blk_below (g := gb160) (o := .cells #[.int .i64 0, .string (⟨#[]⟩ : ByteArray), .int .i64 0, .int .i64 0] 30 (0, 0)) (carB BK160.out) hb); have n2_ := Aside0.mk (below_step (carH HB.out) hb); clear HO_4; clear BK160; clear HB; have HO_4 := n0_; have BK160 := n1_; have HB := n2_; clear n0_ n1_ n2_; (try clear hb); (try clear hb2); (try clear hk); (try clear hi); have hcz37_0 : w36.cell? ⟨gb160, 0, none⟩ = some (.int .i64 0) := (blk_cell BK160.out 0).trans rfl; have hcz37_1 : w36.cell? ⟨gb160, 1, none⟩ = some (.string (⟨#[]⟩ : ByteArray)) := (blk_cell BK160.out 1).trans rfl; have hcz37_2 : w36.cell? ⟨gb160, 2, none⟩ = some (.int .i64 0) := (blk_cell BK160.out 2).trans rfl; have hcz37_3 : w36.cell? ⟨gb160, 3, none⟩ = some (.int .i64 0) := (blk_cell BK160.out 3).trans rfl; have hfz37_0 := blk_frozen BK160.out 0; have hfz37_1 := blk_frozen BK160.out 1; have hfz37_2 := blk_frozen BK160.out 2; have hfz37_3 := blk_frozen BK160.out 3))
             go_meet
             case rel => exact ⟨_, (t188), (t184), (t185), (t186), (t187), argK, H', ⟨by have := HK1.out; have := HJ24.out; first | omega | exact Nat.le_refl _⟩, ⟨by (with_reducible repeat (first | apply Kd.R_alloc | apply Kd.R_drewN | apply Kd.R_drew)); exact Kd.R_mono (Kd.R_far (p := ⟨gb160, 3, none⟩) (Kd.R_far (p := ⟨gb160, 2, none⟩) (Kd.R_far (p := ⟨gb160, 1, none⟩) (Kd.R_far (p := ⟨gb160, 0, none⟩) (Kd.R_mono HO_4.out (fun k_ hk => (⟨hk, by first | exact hk | exact hk⟩ : _ ∧ k_ ≠ gb160))) (fun _ hk => hk.2) (.int .i64 t184)) (fun _ hk => hk.2) (.string t185)) (fun _ hk => hk.2) (.int .i64 t186)) (fun _ hk => hk.2) (.int .i64 t187)) (fun _ hk => hk.1)⟩, ⟨by (with_reducible repeat (first | refine blk_drewN ?_ _ | refine blk_drew ?_ | refine blk_alloc ?_ _)); refine blk_put (cs := #[.int .i64 t184, .string t185, .int .i64 t186, .int .i64 0]) ?_ 3 _ rfl; (with_reducible repeat (first | refine blk_drewN ?_ _ | refine blk_drew ?_ | refine blk_alloc ?_ _)); refine blk_put (cs := #[.int .i64 t184, .string t185, .int .i64 0, .int .i64 0]) ?_ 2 _ rfl; (with_reducible repeat (first | refine blk_drewN ?_ _ | refine blk_drew ?_ | refine blk_alloc ?_ _)); refine blk_put (cs := #[.int .i64 t184, .string (⟨#[]⟩ : ByteArray), .int .i64 0, .int .i64 0]) ?_ 1 _ rfl; (with_reducible repeat (first | refine blk_drewN ?_ _ | refine blk_drew ?_ | refine blk_alloc ?_ _)); refine blk_put (cs := #[.int .i64 0, .string (⟨#[]⟩ : ByteArray), .int .i64 0, .int .i64 0]) ?_ 0 _ rfl; (with_reducible repeat (first | refine blk_drewN ?_ _ | refine blk_drew ?_ | refine blk_alloc ?_ _)); exact BK160.out⟩, ⟨carH HB.out⟩⟩
      ·
       rw [if_neg c7] at H
       exact absurd H (by simp)
     case rest =>
      clear HC5
      try clear c1
      try clear p1
      try clear q1
      try clear hx1
      try clear c2
      try clear c2b0
      try clear c2b1
      try clear p2
      try clear q2
      try clear hx2
      try clear c3
      try clear c4
      try clear c4b0
      try clear c7
      try clear c7b0
      try clear p8
      try clear q8
      try clear hx8
      try clear c9
      try clear c10
      try clear c11
      try clear c12
      try clear c13
      try clear c14
      try clear p14
      try clear q14
      try clear hx14
      try clear c15
      try clear c15b0
      try clear c15b1
      try clear c16
      try clear c17
      try clear p19
      try clear q19
      try clear hx19
      try clear c21
      try clear p26
      try clear q26
      try clear hx26
      try clear c27
      try clear c27b0
      try clear c27b1
      try clear c31
      try clear hcz13_0
      try clear hcz13_1
      try clear hcz13_2
      try clear hcz13_3
      try clear hcz18_0
      try clear hcz18_1
      try clear hcz18_2
      try clear hcz18_3
      try clear hcz24_0
      try clear hcz24_1
      try clear hcz24_2
      try clear hcz24_3
      try clear hcz34_0
      try clear hcz34_1
      try clear hcz34_2
      try clear hcz34_3
      try clear hcz37_0
      try clear hcz37_1
      try clear hcz37_2
      try clear hcz37_3
      try clear hfz13_0
      try clear hfz13_1
      try clear hfz13_2
      try clear hfz13_3
      try clear hfz18_0
      try clear hfz18_1
      try clear hfz18_2
      try clear hfz18_3
      try clear hfz24_0
      try clear hfz24_1
      try clear hfz24_2
      try clear hfz24_3
      try clear hfz34_0
      try clear hfz34_1
      try clear hfz34_2
      try clear hfz34_3
      try clear hfz37_0
      try clear hfz37_1
      try clear hfz37_2
      try clear hfz37_3
      try clear p1
      try clear p14
      try clear p19
      try clear p2
      try clear p26
      try clear p8
      try clear q1
      try clear q14
      try clear q19
      try clear q2
      try clear q26
      try clear q8
      obtain ⟨kq, x7_4, x161000_4, x161001_4, x161002_4, x161003_4, rfl, HA, HJ4, HO_4, BK160, HB⟩ := hcut
      cases kq with
      | zero => exact absurd HA.out (by simp [spec_Lex.j2])
      | succ kj4 =>
       have H := HA.out
       clear HA
       simp only [spec_Lex.j2] at H
       by_cases c38 : x7_4 < 0
       ·
        rw [if_pos c38] at H
        have c38b0 : decide (x7_4 < 0) = true := decide_eq_true c38
        clear c38
        simp only [Option.some.injEq, Prod.mk.injEq] at H
        obtain ⟨rfl, rfl⟩ := H
        go_wp2
        go_ret2
        exact ⟨_, retK, by first | exact Kd.R_nil _ _ _ _ _ | exact Kd.N_nil _ _ _ _ _ | exact Kd.V_nil _ _ _ _ _ | exact Kd.Q_nil _ _ _ _ _ | exact Kd.S_nil _ _ _ _ _, carH HB.out⟩
       ·
        rw [if_neg c38] at H
        have c38b0 : decide (x7_4 < 0) = false := decide_eq_false c38
        clear c38
        by_cases c39 : x4_1.length < 3518437208883
        ·
         rw [if_pos c39] at H
         have LMc39 := Aside0.mk c39
         clear c39
         obtain ⟨y189, hy189⟩ : ∃ y_ : List (S30), y_ = (x4_1 ++ [(⟨x161000_4, x161001_4, x161002_4, x161003_4⟩ : S30)]) := ⟨_, rfl⟩
         replace H : ((spec_l3blank.f kj4 a0 x7_4).bind fun t192 => (spec_Lex.l0 kj4 a0 y189 t192)) = some (r1, r2) := by first | (rw [hy189]; with_reducible exact H) | (have H2_ := (Option.bind_some _ _).symm.trans H; rw [hy189]; with_reducible exact H2_) | (have H2_ := (Option.bind_some _ _).symm.trans H; with_reducible exact H2_) | with_reducible exact H | (rw [hy189]; exact H) | exact H
         have Ny189 := Aside0.mk hy189
         clear hy189
         replace H := Option.bind_eq_some_iff.mp H
         obtain ⟨t192, A400, H⟩ := H
         replace H : (spec_Lex.l0 kj4 a0 y189 t192) = some (r1, r2) := H
         have A40 := Aside0.mk A400
         clear A400
         have H' := Aside0.mk H
         clear H
         have hcz41_0 : wc.cell? ⟨gb160, 0, none⟩ = some (.int .i64 x161000_4) := (blk_cell BK160.out 0).trans rfl
         have hcz41_1 : wc.cell? ⟨gb160, 1, none⟩ = some (.string x161001_4) := (blk_cell BK160.out 1).trans rfl
         have hcz41_2 : wc.cell? ⟨gb160, 2, none⟩ = some (.int .i64 x161002_4) := (blk_cell BK160.out 2).trans rfl
         have hcz41_3 : wc.cell? ⟨gb160, 3, none⟩ = some (.int .i64 x161003_4) := (blk_cell BK160.out 3).trans rfl
         have hfz41_0 := blk_frozen BK160.out 0
         have hfz41_1 := blk_frozen BK160.out 1
         have hfz41_2 := blk_frozen BK160.out 2
         have hfz41_3 := blk_frozen BK160.out 3
         go_wp2_with (first | ((with_reducible refine gate_builtin (b := .append) (xs := #[.tmp 75, .tmp 77]) rfl ?_); at_builtin; refine Kd.R_append k30 (w0 := w) w.heap.size rfl (.tmp 75) (.tmp 77) 22 30 (.agg #[(.int .i64 0), (.string ⟨#[]⟩), (.int .i64 0), (.int .i64 0)]) 40 rfl Tryd.underlying22 info30 rfl (by decide) (by omega) u4 x4_1 (⟨x161000_4, x161001_4, x161002_4, x161003_4⟩ : S30) [.int .i64 x161000_4, .string x161001_4, .int .i64 x161002_4, .int .i64 x161003_4] (fun k_ => k_ ≠ gb160) (fun _ => False) rfl rfl ?aP (fun _ hk => hk.elim) ?aF ?aO ?aB ?aS ?aL ?_; (case aP => exact k30_mkM _ _ _ (⟨x161000_4, x161001_4, x161002_4, x161003_4⟩ : S30)); (case aB => exact (carH HB.out)); (case aF => exact (fun k_ hk => Kd.freshB (g := gb160) (o := .cells #[.int .i64 x161000_4, .string x161001_4, .int .i64 x161002_4, .int .i64 x161003_4] 30 (0, 0)) (carB BK160.out) k_ hk)); (case aO => exact (carR HO_4.out)); (case aS => exact (below_size (carH HB.out))); (case aL => have := LMc39.out; omega); intro v190 w42 ho hb hg hat; rw [← Ny189.out] at ho; have n0_ := Aside0.mk (blk_grown (g := gb160) (o := .cells #[.int .i64 x161000_4, .string x161001_4, .int .i64 x161002_4, .int .i64 x161003_4] 30 (0, 0)) (carB BK160.out) hg (Kd.R_away HO_4.out (fun _ hk => hk))); have n1_ := Aside0.mk (hb); have n2_ := Aside0.mk (ho); clear BK160; clear HB; clear HO_4; have BK160 := n0_; have HB := n1_; have HO191 := n2_; clear n0_ n1_ n2_; clear ho hb hg hat) | ((with_reducible refine gate_callee (f := 9) rfl ?_); refine goesL_ (some 81) rfl rfl Tryd.func9 (by kernel_rfl) rfl #[.string a0, .int .i64 x7_4] rfl mapK ?_; (with_reducible refine (spec_l3blank.calls kj4 a0 x7_4 t192 _ A40.out).mono ?_); rintro e w' ⟨rfl, ⟨nd, rfl⟩⟩; refine ⟨_, rfl, ?_⟩))
         go_roundg kj4
         case measure => have := HK1.out; have := HJ4.out; omega
         case rel => exact ⟨(y189), (t192), argK, H', ⟨by have := HK1.out; have := HJ4.out; omega⟩, ⟨by (with_reducible repeat (first | apply Kd.R_alloc | apply Kd.R_drewN | apply Kd.R_drew)); exact Kd.R_mono HO191.out (fun _ hk => trivial)⟩, ⟨carH HB.out⟩⟩
        ·
         rw [if_neg c39] at H
         exact absurd H (by simp)
    ·
     rw [if_neg c4] at H
     have c4b0 : decide (x5_1 < (a0.size : Int)) = false := decide_eq_false c4
     clear c4
     simp only [Option.some.injEq, Prod.mk.injEq] at H
     obtain ⟨rfl, rfl⟩ := H
     go_wp2
     go_ret2
     exact ⟨_, retK, carR HO_4.out, carH HB.out⟩

/-! ### impl_isSpace: function 18 -/
def impl_isSpace.f (a0 : Int) : Option (Bool) := if a0 = 32 then (some true) else (if a0 = 9 then (some true) else (some (a0 == 10)))
set_option maxHeartbeats 8000000 in
set_option maxRecDepth 100000 in
theorem impl_isSpace.calls (a0 : Int) (r : Bool) (w : World) (h : impl_isSpace.f a0 = some r) :
  Calls Tryd.prog 18 #[.int .u8 a0] w fun e w' => e = .returned (.bool r) ∧ Drawn0 w w' := by
 have H : (if a0 = 32 then (some true) else (if a0 = 9 then (some true) else (some (a0 == 10)))) = some r := h
 clear h
 by_cases c2 : a0 = 32
 ·
  rw [if_pos c2] at H
  have c2b0 : (a0 == 32) = true := beq_iff_eq.mpr c2
  have c2b1 : (a0 != 32) = false := bne_eq_false_iff_eq.mpr c2
  clear c2
  obtain rfl := Option.some.inj H
  go_enter Tryd.func18, Tryd.ntmps18
  go_wp2
  go_ret
  exact ⟨endK, drK⟩
 ·
  rw [if_neg c2] at H
  have c2b0 : (a0 == 32) = false := beq_eq_false_iff_ne.mpr c2
  have c2b1 : (a0 != 32) = true := bne_iff_ne.mpr c2
  by_cases c3 : a0 = 9
  ·
   rw [if_pos c3] at H
   have c3b0 : (a0 == 9) = true := beq_iff_eq.mpr c3
   have c3b1 : (a0 != 9) = false := bne_eq_false_iff_eq.mpr c3
   clear c3
   obtain rfl := Option.some.inj H
   go_enter Tryd.func18, Tryd.ntmps18
   go_wp2
   go_ret
   exact ⟨endK, drK⟩
  ·
   rw [if_neg c3] at H
   have c3b0 : (a0 == 9) = false := beq_eq_false_iff_ne.mpr c3
   have c3b1 : (a0 != 9) = true := bne_iff_ne.mpr c3
   obtain rfl := Option.some.inj H
   go_enter Tryd.func18, Tryd.ntmps18
   go_wp2
   go_ret
   exact ⟨endK, drK⟩

/-! ### impl_Lex_1: function 20 -/
def impl_Lex_1.f (a0 : Int) : Option (Bool) := some (a0 != 10)
set_option maxHeartbeats 8000000 in
set_option maxRecDepth 100000 in
theorem impl_Lex_1.calls (a0 : Int) (r : Bool) (w : World) (h : impl_Lex_1.f a0 = some r) :
  Calls Tryd.prog 20 #[.int .u8 a0] w fun e w' => e = .returned (.bool r) ∧ Drawn0 w w' := by
 have H : (some (a0 != 10)) = some r := h
 clear h
 obtain rfl := Option.some.inj H
 go_enter Tryd.func20, Tryd.ntmps20
 go_wp2
 go_ret
 exact ⟨endK, drK⟩

end Go.Proofs.YtmddcohelcciaacDoor.PFnExactLex
