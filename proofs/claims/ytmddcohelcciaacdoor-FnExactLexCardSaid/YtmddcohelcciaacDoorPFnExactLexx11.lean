-- XPRINTED: written by a program of this session (wip/xprint), which turns the kit's print
import Derived.Test.YtmddcohelcciaacDoorPFnExactLexx0
import Derived.Test.YtmddcohelcciaacDoorPFnExactLexx7
import Derived.Test.YtmddcohelcciaacDoorPFnExactLexx8
import Derived.Test.YtmddcohelcciaacDoorPFnExactLexx9
import Derived.Test.YtmddcohelcciaacDoorPFnExactLexx10
namespace Go.Proofs.YtmddcohelcciaacDoor.PFnExactLex
open Go.RowKit Go.Proofs.YtmddcohelcciaacDoorW.PrintWords Go.Proofs.YtmddcohelcciaacDoorW.PrintLast Go.Proofs.YtmddcohelcciaacDoorW.PrintMore
attribute [local go_sem] max2_int min2_int max_two min_two max_three min_three max_four min_four   -- for this text's walks alone
set_option linter.unusedVariables false
set_option linter.unusedSimpArgs false

/-! ### impl_lexOne: function 21 -/
mutual
def impl_lexOne.j0 : Nat → ByteArray → Int → Bool → Option (Int × ByteArray × Int × Int × Int)
 | 0, _, _, _ => none
 | k + 1, x0, x7, x42 => if x42 = true then ((impl_run_isDigit.f k x0 (wrap64 (x7 + 1))).bind fun t230 => (if 0 ≤ (wrap64 (x7 + (wrap64 (1 + t230)))) then (if (wrap64 (x7 + (wrap64 (1 + t230)))) ≤ (x0.size : Int) then ((impl_ReadDec.f k (x0.extract 0 ((wrap64 (x7 + (wrap64 (1 + t230)))) : Int).toNat)).bind fun bt231 => (some (1, (⟨#[]⟩ : ByteArray), bt231.1, 0, wrap64 (x7 + (wrap64 (1 + t230)))))) else (none)) else (none))) else (if 0 ≤ x7 then (if x7 ≤ (x0.size : Int) then ((impl_ReadDec.f k (x0.extract 0 (x7 : Int).toNat)).bind fun bt233 => (some (1, (⟨#[]⟩ : ByteArray), bt233.1, 0, x7))) else (none)) else (none))
def impl_lexOne.j1 : Nat → ByteArray → Int → Bool → Option (Int × ByteArray × Int × Int × Int)
 | 0, _, _, _ => none
 | k + 1, x0, x6, x71 => if x71 = true then ((impl_lexRe.f k x0).bind fun bt238 => (some (3, bt238.1, 0, 0, bt238.2))) else ((impl_isLetter.f x6).bind fun t240 => (if t240 = true then ((impl_run_isNamed.f k x0 0).bind fun t241 => (if 0 ≤ (mn t241 40) then (if (mn t241 40) ≤ (x0.size : Int) then (if t241 > 40 then (some (0, (⟨#[]⟩ : ByteArray), 0, 0, 0)) else ((impl_IsWord.f k (x0.extract 0 ((mn t241 40) : Int).toNat)).bind fun t243 => (if t243 = true then (some (6, x0.extract 0 ((mn t241 40) : Int).toNat, 0, 0, t241)) else (if t241 < (x0.size : Int) then (if 0 ≤ t241 then (if (bt x0 t241) = 40 then (some (5, x0.extract 0 ((mn t241 40) : Int).toNat, 0, 0, t241)) else (some (4, x0.extract 0 ((mn t241 40) : Int).toNat, 0, 0, t241))) else (none)) else (some (4, x0.extract 0 ((mn t241 40) : Int).toNat, 0, 0, t241)))))) else (none)) else (none))) else ((strings_Split.f (⟨#[38, 38, 32, 124, 124, 32, 61, 61, 32, 33, 61, 32, 33, 126, 32, 60, 61, 32, 43, 61, 32, 123, 32, 125, 32, 40, 32, 41, 32, 91, 32, 93, 32, 59, 32, 44, 32, 61, 32, 33, 32, 60, 32, 43, 32, 45, 32, 42, 32, 47, 32, 37, 32, 126, 32, 63, 32, 58, 32, 36]⟩ : ByteArray) (⟨#[32]⟩ : ByteArray)).bind fun t244 => (impl_lexOne.l0 k x0 t244 (t244.length : Int) 0))))
def impl_lexOne.l0 : Nat → ByteArray → List ByteArray → Int → Int → Option (Int × ByteArray × Int × Int × Int)
 | 0, _, _, _, _ => none
 | k + 1, x0, x120, x121, x122 => if x122 < x121 then (if 0 ≤ x122 then (if x122 < (x120.length : Int) then ((strings_HasPrefix.f x0 (rdOf ByteArray.empty x120 x122)).bind fun t248 => (if t248 = true then (some (7, rdOf ByteArray.empty x120 x122, 0, 0, ((rdOf ByteArray.empty x120 x122).size : Int))) else (impl_lexOne.l0 k x0 x120 x121 (wrap64 (x122 + 1))))) else (none)) else (none)) else (some (0, (⟨#[]⟩ : ByteArray), 0, 0, 0))
end
def impl_lexOne.f (k : Nat) (a0 : ByteArray) (a1_0 : Int) (a1_1 : ByteArray) (a1_2 : Int) (a1_3 : Int) : Option (Int × ByteArray × Int × Int × Int) := if 0 < (a0.size : Int) then ((impl_isDigit.f (bt a0 0)).bind fun t227 => (if t227 = true then ((impl_run_isDigit.f k a0 0).bind fun t228 => (if (wrap64 (t228 + 1)) < (a0.size : Int) then (if 0 ≤ t228 then (if t228 < (a0.size : Int) then (if (bt a0 t228) = 46 then (if 0 ≤ (wrap64 (t228 + 1)) then ((impl_isDigit.f (bt a0 (wrap64 (t228 + 1)))).bind fun t229 => (impl_lexOne.j0 k a0 t228 t229)) else (none)) else (impl_lexOne.j0 k a0 t228 false)) else (none)) else (none)) else (impl_lexOne.j0 k a0 t228 false))) else (if (bt a0 0) = 34 then ((impl_lexString.f k a0).bind fun bt235 => (some (2, bt235.1, 0, 0, bt235.2))) else (if (bt a0 0) = 47 then ((impl_endsOperand.f a1_0 a1_1 a1_2 a1_3).bind fun t237 => (impl_lexOne.j1 k a0 (bt a0 0) (!t237))) else (impl_lexOne.j1 k a0 (bt a0 0) false))))) else (none)
theorem impl_lexOne.mono_l : ∀ k, (∀ y0 y1 y2, LeO (impl_lexOne.j0 k y0 y1 y2) (impl_lexOne.j0 (k + 1) y0 y1 y2)) ∧ (∀ y0 y1 y2, LeO (impl_lexOne.j1 k y0 y1 y2) (impl_lexOne.j1 (k + 1) y0 y1 y2)) ∧ (∀ y0 y1 y2 y3, LeO (impl_lexOne.l0 k y0 y1 y2 y3) (impl_lexOne.l0 (k + 1) y0 y1 y2 y3))
 | 0 => ⟨fun _ _ _ r h => by simp [impl_lexOne.j0] at h, fun _ _ _ r h => by simp [impl_lexOne.j1] at h, fun _ _ _ _ r h => by simp [impl_lexOne.l0] at h⟩
 | k + 1 => by
  obtain ⟨ih0, ih1, ih2⟩ := impl_lexOne.mono_l k
  refine ⟨?_, ?_, ?_⟩
  ·
   intro y0 y1 y2
   unfold impl_lexOne.j0
   repeat' first
   | (with_reducible exact ih0 _ _ _)
   | (with_reducible exact ih1 _ _ _)
   | (with_reducible exact ih2 _ _ _ _)
   | (with_reducible exact impl_IsWord.mono _ _)
   | (with_reducible exact impl_ReadDec.mono _ _)
   | (with_reducible exact impl_lexRe.mono _ _)
   | (with_reducible exact impl_lexString.mono _ _)
   | (with_reducible exact impl_run_isDigit.mono _ _ _)
   | (with_reducible exact impl_run_isNamed.mono _ _ _)
   | (with_reducible exact LeO.refl _)
   | (with_reducible exact LeO.none _)
   | (with_reducible refine LeO.ite ?_ ?_)
   | (with_reducible refine LeO.bind ?_ (fun _ => ?_))
   | exact ih0 _ _ _
   | exact ih1 _ _ _
   | exact ih2 _ _ _ _
   | exact impl_IsWord.mono _ _
   | exact impl_ReadDec.mono _ _
   | exact impl_lexRe.mono _ _
   | exact impl_lexString.mono _ _
   | exact impl_run_isDigit.mono _ _ _
   | exact impl_run_isNamed.mono _ _ _
   | exact LeO.none _
   | refine LeO.ite ?_ ?_
   | refine LeO.bind ?_ (fun _ => ?_)
  ·
   intro y0 y1 y2
   unfold impl_lexOne.j1
   repeat' first
   | (with_reducible exact ih0 _ _ _)
   | (with_reducible exact ih1 _ _ _)
   | (with_reducible exact ih2 _ _ _ _)
   | (with_reducible exact impl_IsWord.mono _ _)
   | (with_reducible exact impl_ReadDec.mono _ _)
   | (with_reducible exact impl_lexRe.mono _ _)
   | (with_reducible exact impl_lexString.mono _ _)
   | (with_reducible exact impl_run_isDigit.mono _ _ _)
   | (with_reducible exact impl_run_isNamed.mono _ _ _)
   | (with_reducible exact LeO.refl _)
   | (with_reducible exact LeO.none _)
   | (with_reducible refine LeO.ite ?_ ?_)
   | (with_reducible refine LeO.bind ?_ (fun _ => ?_))
   | exact ih0 _ _ _
   | exact ih1 _ _ _
   | exact ih2 _ _ _ _
   | exact impl_IsWord.mono _ _
   | exact impl_ReadDec.mono _ _
   | exact impl_lexRe.mono _ _
   | exact impl_lexString.mono _ _
   | exact impl_run_isDigit.mono _ _ _
   | exact impl_run_isNamed.mono _ _ _
   | exact LeO.none _
   | refine LeO.ite ?_ ?_
   | refine LeO.bind ?_ (fun _ => ?_)
  ·
   intro y0 y1 y2 y3
   unfold impl_lexOne.l0
   repeat' first
   | (with_reducible exact ih0 _ _ _)
   | (with_reducible exact ih1 _ _ _)
   | (with_reducible exact ih2 _ _ _ _)
   | (with_reducible exact impl_IsWord.mono _ _)
   | (with_reducible exact impl_ReadDec.mono _ _)
   | (with_reducible exact impl_lexRe.mono _ _)
   | (with_reducible exact impl_lexString.mono _ _)
   | (with_reducible exact impl_run_isDigit.mono _ _ _)
   | (with_reducible exact impl_run_isNamed.mono _ _ _)
   | (with_reducible exact LeO.refl _)
   | (with_reducible exact LeO.none _)
   | (with_reducible refine LeO.ite ?_ ?_)
   | (with_reducible refine LeO.bind ?_ (fun _ => ?_))
   | exact ih0 _ _ _
   | exact ih1 _ _ _
   | exact ih2 _ _ _ _
   | exact impl_IsWord.mono _ _
   | exact impl_ReadDec.mono _ _
   | exact impl_lexRe.mono _ _
   | exact impl_lexString.mono _ _
   | exact impl_run_isDigit.mono _ _ _
   | exact impl_run_isNamed.mono _ _ _
   | exact LeO.none _
   | refine LeO.ite ?_ ?_
   | refine LeO.bind ?_ (fun _ => ?_)
theorem impl_lexOne.mono : ∀ a0 a1 a2 a3 a4 k, LeO (impl_lexOne.f k a0 a1 a2 a3 a4) (impl_lexOne.f (k + 1) a0 a1 a2 a3 a4) := by
 intro a0 a1 a2 a3 a4 k
 obtain ⟨ih0, ih1, ih2⟩ := impl_lexOne.mono_l k
 unfold impl_lexOne.f
 repeat' first
   | (with_reducible exact ih0 _ _ _)
   | (with_reducible exact ih1 _ _ _)
   | (with_reducible exact ih2 _ _ _ _)
   | (with_reducible exact impl_IsWord.mono _ _)
   | (with_reducible exact impl_ReadDec.mono _ _)
   | (with_reducible exact impl_lexRe.mono _ _)
   | (with_reducible exact impl_lexString.mono _ _)
   | (with_reducible exact impl_run_isDigit.mono _ _ _)
   | (with_reducible exact impl_run_isNamed.mono _ _ _)
   | (with_reducible exact LeO.refl _)
   | (with_reducible exact LeO.none _)
   | (with_reducible refine LeO.ite ?_ ?_)
   | (with_reducible refine LeO.bind ?_ (fun _ => ?_))
   | exact ih0 _ _ _
   | exact ih1 _ _ _
   | exact ih2 _ _ _ _
   | exact impl_IsWord.mono _ _
   | exact impl_ReadDec.mono _ _
   | exact impl_lexRe.mono _ _
   | exact impl_lexString.mono _ _
   | exact impl_run_isDigit.mono _ _ _
   | exact impl_run_isNamed.mono _ _ _
   | exact LeO.none _
   | refine LeO.ite ?_ ?_
   | refine LeO.bind ?_ (fun _ => ?_)
set_option maxHeartbeats 8000000 in
set_option maxRecDepth 100000 in
theorem impl_lexOne.calls (k : Nat) (a0 : ByteArray) (a1_0 : Int) (a1_1 : ByteArray) (a1_2 : Int) (a1_3 : Int) (r1 : Int) (r2 : ByteArray) (r3 : Int) (r4 : Int) (r5 : Int) (w : World) (hL : LaidW w) (h : impl_lexOne.f k a0 a1_0 a1_1 a1_2 a1_3 = some (r1, r2, r3, r4, r5)) :
  Calls Tryd.prog 21 #[.string a0, .agg #[.int .i64 a1_0, .string a1_1, .int .i64 a1_2, .int .i64 a1_3]] w fun e w' => e = .returned (.tuple #[.agg #[.int .i64 r1, .string r2, .int .i64 r3, .int .i64 r4], .int .i64 r5]) ∧ Below w.heap.size w w' := by
 have hu30 := Tryd.underlying30
 have HB := Aside0.mk (Below.refl w.heap.size w)
 have H : (if 0 < (a0.size : Int) then ((impl_isDigit.f (bt a0 0)).bind fun t227 => (if t227 = true then ((impl_run_isDigit.f k a0 0).bind fun t228 => (if (wrap64 (t228 + 1)) < (a0.size : Int) then (if 0 ≤ t228 then (if t228 < (a0.size : Int) then (if (bt a0 t228) = 46 then (if 0 ≤ (wrap64 (t228 + 1)) then ((impl_isDigit.f (bt a0 (wrap64 (t228 + 1)))).bind fun t229 => (impl_lexOne.j0 k a0 t228 t229)) else (none)) else (impl_lexOne.j0 k a0 t228 false)) else (none)) else (none)) else (impl_lexOne.j0 k a0 t228 false))) else (if (bt a0 0) = 34 then ((impl_lexString.f k a0).bind fun bt235 => (some (2, bt235.1, 0, 0, bt235.2))) else (if (bt a0 0) = 47 then ((impl_endsOperand.f a1_0 a1_1 a1_2 a1_3).bind fun t237 => (impl_lexOne.j1 k a0 (bt a0 0) (!t237))) else (impl_lexOne.j1 k a0 (bt a0 0) false))))) else (none)) = some (r1, r2, r3, r4, r5) := h
 clear h
 by_cases c3 : 0 < (a0.size : Int)
 ·
  rw [if_pos c3] at H
  have c3b0 : decide (0 < (a0.size : Int)) = true := decide_eq_true c3
  have c3b1 : decide (0 < a0.size) = true := decide_eq_true (by omega)
  clear c3
  replace H := Option.bind_eq_some_iff.mp H
  obtain ⟨t227, A50, H⟩ := H
  replace H : (if t227 = true then ((impl_run_isDigit.f k a0 0).bind fun t228 => (if (wrap64 (t228 + 1)) < (a0.size : Int) then (if 0 ≤ t228 then (if t228 < (a0.size : Int) then (if (bt a0 t228) = 46 then (if 0 ≤ (wrap64 (t228 + 1)) then ((impl_isDigit.f (bt a0 (wrap64 (t228 + 1)))).bind fun t229 => (impl_lexOne.j0 k a0 t228 t229)) else (none)) else (impl_lexOne.j0 k a0 t228 false)) else (none)) else (none)) else (impl_lexOne.j0 k a0 t228 false))) else (if (bt a0 0) = 34 then ((impl_lexString.f k a0).bind fun bt235 => (some (2, bt235.1, 0, 0, bt235.2))) else (if (bt a0 0) = 47 then ((impl_endsOperand.f a1_0 a1_1 a1_2 a1_3).bind fun t237 => (impl_lexOne.j1 k a0 (bt a0 0) (!t237))) else (impl_lexOne.j1 k a0 (bt a0 0) false)))) = some (r1, r2, r3, r4, r5) := H
  have A5 := Aside0.mk A50
  clear A50
  by_cases c6 : t227 = true
  ·
   subst c6
   have H1 : ((impl_run_isDigit.f k a0 0).bind fun t228 => (if (wrap64 (t228 + 1)) < (a0.size : Int) then (if 0 ≤ t228 then (if t228 < (a0.size : Int) then (if (bt a0 t228) = 46 then (if 0 ≤ (wrap64 (t228 + 1)) then ((impl_isDigit.f (bt a0 (wrap64 (t228 + 1)))).bind fun t229 => (impl_lexOne.j0 k a0 t228 t229)) else (none)) else (impl_lexOne.j0 k a0 t228 false)) else (none)) else (none)) else (impl_lexOne.j0 k a0 t228 false))) = some (r1, r2, r3, r4, r5) := by rw [if_pos rfl] at H; exact H
   clear H
   have H := H1
   clear H1
   replace H := Option.bind_eq_some_iff.mp H
   obtain ⟨t228, A70, H⟩ := H
   replace H : (if (wrap64 (t228 + 1)) < (a0.size : Int) then (if 0 ≤ t228 then (if t228 < (a0.size : Int) then (if (bt a0 t228) = 46 then (if 0 ≤ (wrap64 (t228 + 1)) then ((impl_isDigit.f (bt a0 (wrap64 (t228 + 1)))).bind fun t229 => (impl_lexOne.j0 k a0 t228 t229)) else (none)) else (impl_lexOne.j0 k a0 t228 false)) else (none)) else (none)) else (impl_lexOne.j0 k a0 t228 false)) = some (r1, r2, r3, r4, r5) := H
   have A7 := Aside0.mk A70
   clear A70
   have HC8 := Aside0.mk H
   clear H
   go_enter Tryd.func21, Tryd.ntmps21
   go_upto_region 4 with (first | ((with_reducible refine gate_dst (N := 3) rfl ?_); refine box_event ?hg (N := 3) ?hd (cs := #[.int .i64 a1_0, .string a1_1, .int .i64 a1_2, .int .i64 a1_3]) (t := 30) ?hr ?_; (case hd => rfl); (case hg => rfl); (case hr => first | (go_simp; done) | (go_simp; rfl)); intro gb225 hg w9 hbox hb; have n0_ := Aside0.mk (below_step (carH HB.out) hb); have n1_ := Aside0.mk (hbox); have n2_ := Aside0.mk ((by rw [hg]; exact (below_size (carH HB.out)) : w.heap.size ≤ gb225)); have n3_ := Aside0.mk ((by rw [hg]; exact (below_size (carH HB.out)) : w.heap.size ≤ gb225)); clear HB; have HB := n0_; have BK225 := n1_; have GW225 := n2_; have GE225 := n3_; clear n0_ n1_ n2_ n3_; clear hb hbox hg) | ((with_reducible refine gate_dst (N := 4) rfl ?_); refine box_event ?hg (N := 4) ?hd (cs := #[.int .i64 0, .string (⟨#[]⟩ : ByteArray), .int .i64 0, .int .i64 0]) (t := 30) ?hr ?_; (case hd => rfl); (case hg => rfl); (case hr => first | (go_simp; done) | (go_simp; rfl)); intro gb226 hg w10 hbox hb; have n0_ := Aside0.mk (blk_below (g := gb225) (o := .cells #[.int .i64 a1_0, .string a1_1, .int .i64 a1_2, .int .i64 a1_3] 30 (0, 0)) (carB BK225.out) hb); have n1_ := Aside0.mk (below_step (carH HB.out) hb); have n2_ := Aside0.mk (hbox); have n3_ := Aside0.mk ((by rw [hg]; exact (below_size (carH HB.out)) : w.heap.size ≤ gb226)); have n4_ := Aside0.mk ((by rw [hg]; exact (below_size (carH HB.out)) : w.heap.size ≤ gb226)); have n5_ := Aside0.mk ((by rw [hg]; exact Nat.ne_of_lt (blk_lt (g := gb225) (o := .cells #[.int .i64 a1_0, .string a1_1, .int .i64 a1_2, .int .i64 a1_3] 30 (0, 0)) (carB BK225.out)) : gb225 ≠ gb226)); have n6_ := Aside0.mk ((by rw [hg]; exact Nat.ne_of_gt (blk_lt (g := gb225) (o := .cells #[.int .i64 a1_0, .string a1_1, .int .i64 a1_2, .int .i64 a1_3] 30 (0, 0)) (carB BK225.out)) : gb226 ≠ gb225)); clear BK225; clear HB; have BK225 := n0_; have HB := n1_; have BK226 := n2_; have GW226 := n3_; have GE226 := n4_; have NB225_226 := n5_; have NB226_225 := n6_; clear n0_ n1_ n2_ n3_ n4_ n5_ n6_; clear hb hbox hg; have p4 : 0 ≤ (0 : Int) := (by omega); have q4 : 0 < a0.size := (by have : (0 : Int) < (a0.size : Int) := dA; omega); have hx4 : ∀ h : 0 < a0.size, ((a0[0]'h).toNat : Int) = bt a0 0 := bt_at a0 0; clear p4; have qi4 : (0 < (a0.size : Int)) = True := eq_true dA; replace q4 := eq_true q4) | ((with_reducible refine gate_callee (f := 29) rfl ?_); refine goesL_ (some 22) rfl rfl Tryd.func29 (by kernel_rfl) rfl #[.int .u8 (bt a0 0)] rfl mapK ?_; (with_reducible refine (impl_isDigit.calls (bt a0 0) true _ A5.out).mono ?_); rintro e w' ⟨rfl, ⟨nd, rfl⟩⟩; refine ⟨_, rfl, ?_⟩) | ((with_reducible refine gate_callee (f := 19) rfl ?_); refine goesL_ (some 24) rfl rfl Tryd.func19 (by kernel_rfl) rfl #[.string a0, .int .i64 0, (.func (.func 29) #[] #[])] rfl mapK ?_; (with_reducible refine (impl_run_isDigit.calls k a0 0  t228 _ A7.out).mono ?_); rintro e w' ⟨rfl, ⟨nd, rfl⟩⟩; refine ⟨_, rfl, ?_⟩))
   (try simp only [Act.put, List.setIfInBounds_toArray, List.set_cons_zero, List.set_cons_succ])
   go_cut [42] (fun v42 wc => ∃ (kq : Nat) (x42_7 : Bool), v42 = .bool x42_7 ∧ Aside0 (impl_lexOne.j0 kq a0 t228 x42_7 = some (r1, r2, r3, r4, r5)) ∧ Aside0 (kq ≤ k) ∧ Aside0 (wc.heap[gb225]? = some (.cells #[.int .i64 a1_0, .string a1_1, .int .i64 a1_2, .int .i64 a1_3] 30 (0, 0))) ∧ Aside0 (wc.heap[gb226]? = some (.cells #[.int .i64 0, .string (⟨#[]⟩ : ByteArray), .int .i64 0, .int .i64 0] 30 (0, 0))) ∧ Aside0 (Below w.heap.size w wc))
   case first =>
    have H := HC8.out
    clear HC8
    by_cases c11 : (wrap64 (t228 + 1)) < (a0.size : Int)
    ·
     rw [if_pos c11] at H
     have c11b0 : decide ((wrap64 (t228 + 1)) < (a0.size : Int)) = true := decide_eq_true c11
     clear c11
     (first | rw [c11b0] | (simp only [i64_w, i32_w]; rw [c11b0]) | skip)
     by_cases c12 : 0 ≤ t228
     ·
      rw [if_pos c12] at H
      have c12b0 : decide (0 ≤ t228) = true := decide_eq_true c12
      clear c12
      by_cases c13 : t228 < (a0.size : Int)
      ·
       rw [if_pos c13] at H
       have c13b0 : decide (t228 < (a0.size : Int)) = true := decide_eq_true c13
       clear c13
       by_cases c15 : (bt a0 t228) = 46
       ·
        rw [if_pos c15] at H
        have c15b0 : ((bt a0 t228) == 46) = true := beq_iff_eq.mpr c15
        have c15b1 : ((bt a0 t228) != 46) = false := bne_eq_false_iff_eq.mpr c15
        clear c15
        obtain ⟨ji16, hji16⟩ : ∃ j_ : Int, (wrap64 (t228 + 1)) = j_ := ⟨_, rfl⟩
        replace H : (if 0 ≤ (ji16) then ((impl_isDigit.f (bt a0 (ji16))).bind fun t229 => (impl_lexOne.j0 k a0 t228 t229)) else (none)) = some (r1, r2, r3, r4, r5) := by first | (rw [hji16] at H; exact H) | (simp only [hji16] at H ⊢; exact H)
        (try rw [hji16] at c11b0)
        have hji16w : (IntKind.i64.wrap (t228 + 1)) = ji16 := (i64_w _).trans hji16
        by_cases c17 : 0 ≤ (ji16)
        ·
         rw [if_pos c17] at H
         have c17b0 : decide (0 ≤ (ji16)) = true := decide_eq_true c17
         clear c17
         replace H := Option.bind_eq_some_iff.mp H
         obtain ⟨t229, A190, H⟩ := H
         replace H : (impl_lexOne.j0 k a0 t228 t229) = some (r1, r2, r3, r4, r5) := H
         have A19 := Aside0.mk A190
         clear A190
         have H' := Aside0.mk H
         clear H
         have p14 : 0 ≤ (t228 : Int) := dA
         have q14 : t228 < (a0.size : Int) := dA
         have hx14 := bt_at a0 t228
         replace p14 := eq_true p14
         replace q14 := eq_true q14
         have p18 : 0 ≤ ((ji16) : Int) := dA
         have q18 : (ji16) < (a0.size : Int) := dA
         have hx18 := bt_at a0 (ji16)
         replace p18 := eq_true p18
         replace q18 := eq_true q18
         go_wp2_with (first | (go_at_call 29; (with_reducible refine (impl_isDigit.calls (bt a0 (ji16)) t229 _ A19.out).mono ?_); rintro e w' ⟨rfl, ⟨nd, rfl⟩⟩))
         go_meet
         case rel => exact ⟨_, (t229), argK, (by first | exact H' | (simp only [hji16]; exact H') | (simp only [hji16] at H' ⊢; exact H')), ⟨by first | omega | exact Nat.le_refl _⟩, ⟨by (with_reducible repeat (first | refine blk_drewN ?_ _ | refine blk_drew ?_ | refine blk_alloc ?_ _)); exact BK225.out⟩, ⟨by (with_reducible repeat (first | refine blk_drewN ?_ _ | refine blk_drew ?_ | refine blk_alloc ?_ _)); exact BK226.out⟩, ⟨carH HB.out⟩⟩
        ·
         rw [if_neg c17] at H
         exact absurd H (by simp)
       ·
        rw [if_neg c15] at H
        have c15b0 : ((bt a0 t228) == 46) = false := beq_eq_false_iff_ne.mpr c15
        have c15b1 : ((bt a0 t228) != 46) = true := bne_iff_ne.mpr c15
        have H' := Aside0.mk H
        clear H
        have p14 : 0 ≤ (t228 : Int) := dA
        have q14 : t228 < (a0.size : Int) := dA
        have hx14 := bt_at a0 t228
        replace p14 := eq_true p14
        replace q14 := eq_true q14
        go_wp2
        go_meet
        case rel => exact ⟨_, (false), argK, H', ⟨by first | omega | exact Nat.le_refl _⟩, ⟨by (with_reducible repeat (first | refine blk_drewN ?_ _ | refine blk_drew ?_ | refine blk_alloc ?_ _)); exact BK225.out⟩, ⟨by (with_reducible repeat (first | refine blk_drewN ?_ _ | refine blk_drew ?_ | refine blk_alloc ?_ _)); exact BK226.out⟩, ⟨carH HB.out⟩⟩
      ·
       rw [if_neg c13] at H
       exact absurd H (by simp)
     ·
      rw [if_neg c12] at H
      exact absurd H (by simp)
    ·
     rw [if_neg c11] at H
     have c11b0 : decide ((wrap64 (t228 + 1)) < (a0.size : Int)) = false := decide_eq_false c11
     clear c11
     (first | rw [c11b0] | (simp only [i64_w, i32_w]; rw [c11b0]) | skip)
     have H' := Aside0.mk H
     clear H
     go_wp2
     go_meet
     case rel => exact ⟨_, (false), argK, H', ⟨by first | omega | exact Nat.le_refl _⟩, ⟨by (with_reducible repeat (first | refine blk_drewN ?_ _ | refine blk_drew ?_ | refine blk_alloc ?_ _)); exact BK225.out⟩, ⟨by (with_reducible repeat (first | refine blk_drewN ?_ _ | refine blk_drew ?_ | refine blk_alloc ?_ _)); exact BK226.out⟩, ⟨carH HB.out⟩⟩
   case rest =>
    clear HC8
    try clear c1
    try clear p1
    try clear q1
    try clear hx1
    try clear c2
    try clear p2
    try clear c3
    try clear c3b0
    try clear c3b1
    try clear p4
    try clear q4
    try clear hx4
    try clear qi4
    try clear c6
    try clear p6
    try clear c7
    try clear c11
    try clear c11b0
    try clear c12
    try clear c12b0
    try clear c13
    try clear c13b0
    try clear p14
    try clear q14
    try clear hx14
    try clear c15
    try clear c15b0
    try clear c15b1
    try clear c17
    try clear c17b0
    try clear p18
    try clear q18
    try clear hx18
    try clear p14
    try clear p18
    try clear p4
    try clear q14
    try clear q18
    try clear q4
    obtain ⟨kq, x42_7, rfl, HA, HJ7, BK225, BK226, HB⟩ := hcut
    cases kq with
    | zero => exact absurd HA.out (by simp [impl_lexOne.j0])
    | succ kj7 =>
     have H := HA.out
     clear HA
     simp only [impl_lexOne.j0] at H
     by_cases c20 : x42_7 = true
     ·
      subst c20
      have H1 : ((impl_run_isDigit.f kj7 a0 (wrap64 (t228 + 1))).bind fun t230 => (if 0 ≤ (wrap64 (t228 + (wrap64 (1 + t230)))) then (if (wrap64 (t228 + (wrap64 (1 + t230)))) ≤ (a0.size : Int) then ((impl_ReadDec.f kj7 (a0.extract 0 ((wrap64 (t228 + (wrap64 (1 + t230)))) : Int).toNat)).bind fun bt231 => (some (1, (⟨#[]⟩ : ByteArray), bt231.1, 0, wrap64 (t228 + (wrap64 (1 + t230)))))) else (none)) else (none))) = some (r1, r2, r3, r4, r5) := by rw [if_pos rfl] at H; exact H
      clear H
      have H := H1
      clear H1
      replace H := Option.bind_eq_some_iff.mp H
      obtain ⟨t230, A210, H⟩ := H
      replace H : (if 0 ≤ (wrap64 (t228 + (wrap64 (1 + t230)))) then (if (wrap64 (t228 + (wrap64 (1 + t230)))) ≤ (a0.size : Int) then ((impl_ReadDec.f kj7 (a0.extract 0 ((wrap64 (t228 + (wrap64 (1 + t230)))) : Int).toNat)).bind fun bt231 => (some (1, (⟨#[]⟩ : ByteArray), bt231.1, 0, wrap64 (t228 + (wrap64 (1 + t230)))))) else (none)) else (none)) = some (r1, r2, r3, r4, r5) := H
      have A21 := Aside0.mk A210
      clear A210
      obtain ⟨ji22, hji22⟩ : ∃ j_ : Int, (wrap64 (t228 + (wrap64 (1 + t230)))) = j_ := ⟨_, rfl⟩
      replace H : (if 0 ≤ (ji22) then (if (ji22) ≤ (a0.size : Int) then ((impl_ReadDec.f kj7 (a0.extract 0 ((ji22) : Int).toNat)).bind fun bt231 => (some (1, (⟨#[]⟩ : ByteArray), bt231.1, 0, ji22))) else (none)) else (none)) = some (r1, r2, r3, r4, r5) := by first | (rw [hji22] at H; exact H) | (simp only [hji22] at H ⊢; exact H)
      (try rw [hji22] at A21)
      have hji22w : (IntKind.i64.wrap (t228 + (wrap64 (1 + t230)))) = ji22 := (i64_w _).trans hji22
      by_cases c23 : 0 ≤ (ji22)
      ·
       rw [if_pos c23] at H
       have c23b0 := eq_true c23
       have c23b1 : decide (0 ≤ (ji22)) = true := decide_eq_true c23
       clear c23
       by_cases c24 : (ji22) ≤ (a0.size : Int)
       ·
        rw [if_pos c24] at H
        have c24b0 := eq_true c24
        have c24b1 : decide ((ji22) ≤ (a0.size : Int)) = true := decide_eq_true c24
        clear c24
        replace H := Option.bind_eq_some_iff.mp H
        obtain ⟨⟨t231, t232⟩, A250, H⟩ := H
        replace H : (some (1, (⟨#[]⟩ : ByteArray), t231, 0, ji22)) = some (r1, r2, r3, r4, r5) := H
        have A25 := Aside0.mk A250
        clear A250
        simp only [Option.some.injEq, Prod.mk.injEq] at H
        obtain ⟨rfl, rfl, rfl, rfl, rfl⟩ := H
        go_wp2_with (first | ((with_reducible refine gate_callee (f := 19) rfl ?_); refine goesL_ (some 47) rfl rfl Tryd.func19 (by kernel_rfl) rfl #[.string a0, .int .i64 (wrap64 (t228 + 1)), (.func (.func 29) #[] #[])] rfl mapK ?_; (with_reducible refine (impl_run_isDigit.calls kj7 a0 (wrap64 (t228 + 1))  t230 _ A21.out).mono ?_); rintro e w' ⟨rfl, ⟨nd, rfl⟩⟩; refine ⟨_, rfl, ?_⟩; (try (rw [drewN_self wc]; generalize hq_ : World.drewN wc _ = wc; have n0_ : Aside0 (wc.heap[gb225]? = some (.cells #[.int .i64 a1_0, .string a1_1, .int .i64 a1_2, .int .i64 a1_3] 30 (0, 0))) := ⟨by rw [← hq_]; exact (carB BK225.out)⟩; have n1_ : Aside0 (wc.heap[gb226]? = some (.cells #[.int .i64 0, .string (⟨#[]⟩ : ByteArray), .int .i64 0, .int .i64 0] 30 (0, 0))) := ⟨by rw [← hq_]; exact (carB BK226.out)⟩; have n2_ : Aside0 (Below w.heap.size w wc) := ⟨by rw [← hq_]; exact (carH HB.out)⟩; clear BK225 BK226 HB hq_; have BK225 := n0_; have BK226 := n1_; have HB := n2_; clear n0_ n1_ n2_))) | ((with_reducible refine gate_callee (f := 30) rfl ?_); refine goesL_ (some 54) rfl rfl Tryd.func30 (by kernel_rfl) rfl #[.string (a0.extract 0 ((ji22) : Int).toNat)] rfl (by (try simp only [List.map_toArray, List.map_cons, List.map_nil]); first | done | (simp only [hji22]; rfl) | rfl | (simp only [List.length_drop, List.length_take]; rfl)) ?_; (with_reducible refine (impl_ReadDec.calls kj7 (a0.extract 0 ((ji22) : Int).toNat) t231 t232 _ A25.out).mono ?_); rintro e w26 ⟨rfl, hb⟩; refine ⟨_, rfl, ?_⟩; have n0_ := Aside0.mk (blk_below (g := gb225) (o := .cells #[.int .i64 a1_0, .string a1_1, .int .i64 a1_2, .int .i64 a1_3] 30 (0, 0)) (carB BK225.out) hb); have n1_ := Aside0.mk (blk_below (g := gb226) (o := .cells #[.int .i64 0, .string (⟨#[]⟩ : ByteArray), .int .i64 0, .int .i64 0] 30 (0, 0)) (carB BK226.out) hb); have n2_ := Aside0.mk (below_step (carH HB.out) hb); clear BK225; clear BK226; clear HB; have BK225 := n0_; have BK226 := n1_; have HB := n2_; clear n0_ n1_ n2_; (try clear hb); (try clear hb2); (try clear hk); (try clear hi); have hnb27 := NB226_225.out; have hnc27 := NB225_226.out; have hcz28_0 : w26.cell? ⟨gb226, 0, none⟩ = some (.int .i64 0) := (blk_cell BK226.out 0).trans rfl; have hcz28_1 : w26.cell? ⟨gb226, 1, none⟩ = some (.string (⟨#[]⟩ : ByteArray)) := (blk_cell BK226.out 1).trans rfl; have hcz28_2 : w26.cell? ⟨gb226, 2, none⟩ = some (.int .i64 0) := (blk_cell BK226.out 2).trans rfl; have hcz28_3 : w26.cell? ⟨gb226, 3, none⟩ = some (.int .i64 0) := (blk_cell BK226.out 3).trans rfl; have hfz28_0 := blk_frozen BK226.out 0; have hfz28_1 := blk_frozen BK226.out 1; have hfz28_2 := blk_frozen BK226.out 2; have hfz28_3 := blk_frozen BK226.out 3))
        refine bodyPost_ret (results_ct rfl _ _ gb226 30 #[.int .i64 1, .string (⟨#[]⟩ : ByteArray), .int .i64 t231, .int .i64 0] (0, 0) _ rfl (carP BK226.out) Tryd.underlying30 rfl (by kernel_rfl)) rfl ?_
        exact ⟨by first | rfl | (simp [errW_none, errW_some] <;> rfl) | (simp only [← hji22]; first | rfl | (simp [errW_none, errW_some] <;> rfl)) | (simp [*, errW_none, errW_some] <;> rfl) | (simp only [xne_nil, xeq_nil]; first | rfl | (simp [errW_none, errW_some] <;> rfl)), carH HB.out⟩
       ·
        rw [if_neg c24] at H
        exact absurd H (by simp)
      ·
       rw [if_neg c23] at H
       exact absurd H (by simp)
     ·
      replace c20 := Bool.eq_false_iff.mpr c20
      subst c20
      have H1 : (if 0 ≤ t228 then (if t228 ≤ (a0.size : Int) then ((impl_ReadDec.f kj7 (a0.extract 0 (t228 : Int).toNat)).bind fun bt233 => (some (1, (⟨#[]⟩ : ByteArray), bt233.1, 0, t228))) else (none)) else (none)) = some (r1, r2, r3, r4, r5) := by rw [if_neg (show ¬ (false = true) by decide)] at H; exact H
      clear H
      have H := H1
      clear H1
      by_cases c29 : 0 ≤ t228
      ·
       rw [if_pos c29] at H
       have c29b0 := eq_true c29
       have c29b1 : decide (0 ≤ t228) = true := decide_eq_true c29
       clear c29
       by_cases c30 : t228 ≤ (a0.size : Int)
       ·
        rw [if_pos c30] at H
        have c30b0 := eq_true c30
        have c30b1 : decide (t228 ≤ (a0.size : Int)) = true := decide_eq_true c30
        clear c30
        replace H := Option.bind_eq_some_iff.mp H
        obtain ⟨⟨t233, t234⟩, A310, H⟩ := H
        replace H : (some (1, (⟨#[]⟩ : ByteArray), t233, 0, t228)) = some (r1, r2, r3, r4, r5) := H
        have A31 := Aside0.mk A310
        clear A310
        simp only [Option.some.injEq, Prod.mk.injEq] at H
        obtain ⟨rfl, rfl, rfl, rfl, rfl⟩ := H
        go_wp2_with (first | ((with_reducible refine gate_callee (f := 30) rfl ?_); refine goesL_ (some 54) rfl rfl Tryd.func30 (by kernel_rfl) rfl #[.string (a0.extract 0 (t228 : Int).toNat)] rfl mapK ?_; (with_reducible refine (impl_ReadDec.calls kj7 (a0.extract 0 (t228 : Int).toNat) t233 t234 _ A31.out).mono ?_); rintro e w32 ⟨rfl, hb⟩; refine ⟨_, rfl, ?_⟩; have n0_ := Aside0.mk (blk_below (g := gb225) (o := .cells #[.int .i64 a1_0, .string a1_1, .int .i64 a1_2, .int .i64 a1_3] 30 (0, 0)) (carB BK225.out) hb); have n1_ := Aside0.mk (blk_below (g := gb226) (o := .cells #[.int .i64 0, .string (⟨#[]⟩ : ByteArray), .int .i64 0, .int .i64 0] 30 (0, 0)) (carB BK226.out) hb); have n2_ := Aside0.mk (below_step (carH HB.out) hb); clear BK225; clear BK226; clear HB; have BK225 := n0_; have BK226 := n1_; have HB := n2_; clear n0_ n1_ n2_; (try clear hb); (try clear hb2); (try clear hk); (try clear hi); have hnb33 := NB226_225.out; have hnc33 := NB225_226.out; have hcz34_0 : w32.cell? ⟨gb226, 0, none⟩ = some (.int .i64 0) := (blk_cell BK226.out 0).trans rfl; have hcz34_1 : w32.cell? ⟨gb226, 1, none⟩ = some (.string (⟨#[]⟩ : ByteArray)) := (blk_cell BK226.out 1).trans rfl; have hcz34_2 : w32.cell? ⟨gb226, 2, none⟩ = some (.int .i64 0) := (blk_cell BK226.out 2).trans rfl; have hcz34_3 : w32.cell? ⟨gb226, 3, none⟩ = some (.int .i64 0) := (blk_cell BK226.out 3).trans rfl; have hfz34_0 := blk_frozen BK226.out 0; have hfz34_1 := blk_frozen BK226.out 1; have hfz34_2 := blk_frozen BK226.out 2; have hfz34_3 := blk_frozen BK226.out 3))
        refine bodyPost_ret (results_ct rfl _ _ gb226 30 #[.int .i64 1, .string (⟨#[]⟩ : ByteArray), .int .i64 t233, .int .i64 0] (0, 0) _ rfl (carP BK226.out) Tryd.underlying30 rfl (by kernel_rfl)) rfl ?_
        exact ⟨retK, carH HB.out⟩
       ·
        rw [if_neg c30] at H
        exact absurd H (by simp)
      ·
       rw [if_neg c29] at H
       exact absurd H (by simp)
  ·
   replace c6 := Bool.eq_false_iff.mpr c6
   subst c6
   have H1 : (if (bt a0 0) = 34 then ((impl_lexString.f k a0).bind fun bt235 => (some (2, bt235.1, 0, 0, bt235.2))) else (if (bt a0 0) = 47 then ((impl_endsOperand.f a1_0 a1_1 a1_2 a1_3).bind fun t237 => (impl_lexOne.j1 k a0 (bt a0 0) (!t237))) else (impl_lexOne.j1 k a0 (bt a0 0) false))) = some (r1, r2, r3, r4, r5) := by rw [if_neg (show ¬ (false = true) by decide)] at H; exact H
   clear H
   have H := H1
   clear H1
   by_cases c35 : (bt a0 0) = 34
   ·
    rw [if_pos c35] at H
    have c35b0 : ((bt a0 0) == 34) = true := beq_iff_eq.mpr c35
    have c35b1 : ((bt a0 0) != 34) = false := bne_eq_false_iff_eq.mpr c35
    clear c35
    replace H := Option.bind_eq_some_iff.mp H
    obtain ⟨⟨t235, t236⟩, A360, H⟩ := H
    replace H : (some (2, t235, 0, 0, t236)) = some (r1, r2, r3, r4, r5) := H
    have A36 := Aside0.mk A360
    clear A360
    simp only [Option.some.injEq, Prod.mk.injEq] at H
    obtain ⟨rfl, rfl, rfl, rfl, rfl⟩ := H
    go_enter Tryd.func21, Tryd.ntmps21
    go_wp2_with (first | ((with_reducible refine gate_dst (N := 3) rfl ?_); refine box_event ?hg (N := 3) ?hd (cs := #[.int .i64 a1_0, .string a1_1, .int .i64 a1_2, .int .i64 a1_3]) (t := 30) ?hr ?_; (case hd => rfl); (case hg => rfl); (case hr => first | (go_simp; done) | (go_simp; rfl)); intro gb225 hg w37 hbox hb; have n0_ := Aside0.mk (below_step (carH HB.out) hb); have n1_ := Aside0.mk (hbox); have n2_ := Aside0.mk ((by rw [hg]; exact (below_size (carH HB.out)) : w.heap.size ≤ gb225)); have n3_ := Aside0.mk ((by rw [hg]; exact (below_size (carH HB.out)) : w.heap.size ≤ gb225)); clear HB; have HB := n0_; have BK225 := n1_; have GW225 := n2_; have GE225 := n3_; clear n0_ n1_ n2_ n3_; clear hb hbox hg) | ((with_reducible refine gate_dst (N := 4) rfl ?_); refine box_event ?hg (N := 4) ?hd (cs := #[.int .i64 0, .string (⟨#[]⟩ : ByteArray), .int .i64 0, .int .i64 0]) (t := 30) ?hr ?_; (case hd => rfl); (case hg => rfl); (case hr => first | (go_simp; done) | (go_simp; rfl)); intro gb226 hg w38 hbox hb; have n0_ := Aside0.mk (blk_below (g := gb225) (o := .cells #[.int .i64 a1_0, .string a1_1, .int .i64 a1_2, .int .i64 a1_3] 30 (0, 0)) (carB BK225.out) hb); have n1_ := Aside0.mk (below_step (carH HB.out) hb); have n2_ := Aside0.mk (hbox); have n3_ := Aside0.mk ((by rw [hg]; exact (below_size (carH HB.out)) : w.heap.size ≤ gb226)); have n4_ := Aside0.mk ((by rw [hg]; exact (below_size (carH HB.out)) : w.heap.size ≤ gb226)); have n5_ := Aside0.mk ((by rw [hg]; exact Nat.ne_of_lt (blk_lt (g := gb225) (o := .cells #[.int .i64 a1_0, .string a1_1, .int .i64 a1_2, .int .i64 a1_3] 30 (0, 0)) (carB BK225.out)) : gb225 ≠ gb226)); have n6_ := Aside0.mk ((by rw [hg]; exact Nat.ne_of_gt (blk_lt (g := gb225) (o := .cells #[.int .i64 a1_0, .string a1_1, .int .i64 a1_2, .int .i64 a1_3] 30 (0, 0)) (carB BK225.out)) : gb226 ≠ gb225)); clear BK225; clear HB; have BK225 := n0_; have HB := n1_; have BK226 := n2_; have GW226 := n3_; have GE226 := n4_; have NB225_226 := n5_; have NB226_225 := n6_; clear n0_ n1_ n2_ n3_ n4_ n5_ n6_; clear hb hbox hg; have p4 : 0 ≤ (0 : Int) := (by omega); have q4 : 0 < a0.size := (by have : (0 : Int) < (a0.size : Int) := dA; omega); have hx4 : ∀ h : 0 < a0.size, ((a0[0]'h).toNat : Int) = bt a0 0 := bt_at a0 0; clear p4; have qi4 : (0 < (a0.size : Int)) = True := eq_true dA; replace q4 := eq_true q4) | ((with_reducible refine gate_callee (f := 29) rfl ?_); refine goesL_ (some 22) rfl rfl Tryd.func29 (by kernel_rfl) rfl #[.int .u8 (bt a0 0)] rfl mapK ?_; (with_reducible refine (impl_isDigit.calls (bt a0 0) false _ A5.out).mono ?_); rintro e w' ⟨rfl, ⟨nd, rfl⟩⟩; refine ⟨_, rfl, ?_⟩; (try (rw [drewN_self w38]; generalize hq_ : World.drewN w38 _ = w38; have n0_ : Aside0 (w38.heap[gb225]? = some (.cells #[.int .i64 a1_0, .string a1_1, .int .i64 a1_2, .int .i64 a1_3] 30 (0, 0))) := ⟨by rw [← hq_]; exact (carB BK225.out)⟩; have n1_ : Aside0 (w38.heap[gb226]? = some (.cells #[.int .i64 0, .string (⟨#[]⟩ : ByteArray), .int .i64 0, .int .i64 0] 30 (0, 0))) := ⟨by rw [← hq_]; exact (carB BK226.out)⟩; have n2_ : Aside0 (Below w.heap.size w w38) := ⟨by rw [← hq_]; exact (carH HB.out)⟩; clear BK225 BK226 HB hq_; have BK225 := n0_; have BK226 := n1_; have HB := n2_; clear n0_ n1_ n2_))) | ((with_reducible refine gate_callee (f := 31) rfl ?_); refine goesL_ (some 65) rfl rfl Tryd.func31 (by kernel_rfl) rfl #[.string a0] rfl mapK ?_; (with_reducible refine (impl_lexString.calls k a0 t235 t236 _ A36.out).mono ?_); rintro e w39 ⟨rfl, hb⟩; refine ⟨_, rfl, ?_⟩; have n0_ := Aside0.mk (blk_below (g := gb225) (o := .cells #[.int .i64 a1_0, .string a1_1, .int .i64 a1_2, .int .i64 a1_3] 30 (0, 0)) (carB BK225.out) hb); have n1_ := Aside0.mk (blk_below (g := gb226) (o := .cells #[.int .i64 0, .string (⟨#[]⟩ : ByteArray), .int .i64 0, .int .i64 0] 30 (0, 0)) (carB BK226.out) hb); have n2_ := Aside0.mk (below_step (carH HB.out) hb); clear BK225; clear BK226; clear HB; have BK225 := n0_; have BK226 := n1_; have HB := n2_; clear n0_ n1_ n2_; (try clear hb); (try clear hb2); (try clear hk); (try clear hi); have hnb40 := NB226_225.out; have hnc40 := NB225_226.out; have hcz41_0 : w39.cell? ⟨gb226, 0, none⟩ = some (.int .i64 0) := (blk_cell BK226.out 0).trans rfl; have hcz41_1 : w39.cell? ⟨gb226, 1, none⟩ = some (.string (⟨#[]⟩ : ByteArray)) := (blk_cell BK226.out 1).trans rfl; have hcz41_2 : w39.cell? ⟨gb226, 2, none⟩ = some (.int .i64 0) := (blk_cell BK226.out 2).trans rfl; have hcz41_3 : w39.cell? ⟨gb226, 3, none⟩ = some (.int .i64 0) := (blk_cell BK226.out 3).trans rfl; have hfz41_0 := blk_frozen BK226.out 0; have hfz41_1 := blk_frozen BK226.out 1; have hfz41_2 := blk_frozen BK226.out 2; have hfz41_3 := blk_frozen BK226.out 3))
    refine bodyPost_ret (results_ct rfl _ _ gb226 30 #[.int .i64 2, .string t235, .int .i64 0, .int .i64 0] (0, 0) _ rfl (carP BK226.out) Tryd.underlying30 rfl (by kernel_rfl)) rfl ?_
    exact ⟨retK, carH HB.out⟩
   ·
    rw [if_neg c35] at H
    have c35b0 : ((bt a0 0) == 34) = false := beq_eq_false_iff_ne.mpr c35
    have c35b1 : ((bt a0 0) != 34) = true := bne_iff_ne.mpr c35
    have HC42 := Aside0.mk H
    clear H
    go_enter Tryd.func21, Tryd.ntmps21
    go_upto_region 11 with (first | ((with_reducible refine gate_dst (N := 3) rfl ?_); refine box_event ?hg (N := 3) ?hd (cs := #[.int .i64 a1_0, .string a1_1, .int .i64 a1_2, .int .i64 a1_3]) (t := 30) ?hr ?_; (case hd => rfl); (case hg => rfl); (case hr => first | (go_simp; done) | (go_simp; rfl)); intro gb225 hg w43 hbox hb; have n0_ := Aside0.mk (below_step (carH HB.out) hb); have n1_ := Aside0.mk (hbox); have n2_ := Aside0.mk ((by rw [hg]; exact (below_size (carH HB.out)) : w.heap.size ≤ gb225)); have n3_ := Aside0.mk ((by rw [hg]; exact (below_size (carH HB.out)) : w.heap.size ≤ gb225)); clear HB; have HB := n0_; have BK225 := n1_; have GW225 := n2_; have GE225 := n3_; clear n0_ n1_ n2_ n3_; clear hb hbox hg) | ((with_reducible refine gate_dst (N := 4) rfl ?_); refine box_event ?hg (N := 4) ?hd (cs := #[.int .i64 0, .string (⟨#[]⟩ : ByteArray), .int .i64 0, .int .i64 0]) (t := 30) ?hr ?_; (case hd => rfl); (case hg => rfl); (case hr => first | (go_simp; done) | (go_simp; rfl)); intro gb226 hg w44 hbox hb; have n0_ := Aside0.mk (blk_below (g := gb225) (o := .cells #[.int .i64 a1_0, .string a1_1, .int .i64 a1_2, .int .i64 a1_3] 30 (0, 0)) (carB BK225.out) hb); have n1_ := Aside0.mk (below_step (carH HB.out) hb); have n2_ := Aside0.mk (hbox); have n3_ := Aside0.mk ((by rw [hg]; exact (below_size (carH HB.out)) : w.heap.size ≤ gb226)); have n4_ := Aside0.mk ((by rw [hg]; exact (below_size (carH HB.out)) : w.heap.size ≤ gb226)); have n5_ := Aside0.mk ((by rw [hg]; exact Nat.ne_of_lt (blk_lt (g := gb225) (o := .cells #[.int .i64 a1_0, .string a1_1, .int .i64 a1_2, .int .i64 a1_3] 30 (0, 0)) (carB BK225.out)) : gb225 ≠ gb226)); have n6_ := Aside0.mk ((by rw [hg]; exact Nat.ne_of_gt (blk_lt (g := gb225) (o := .cells #[.int .i64 a1_0, .string a1_1, .int .i64 a1_2, .int .i64 a1_3] 30 (0, 0)) (carB BK225.out)) : gb226 ≠ gb225)); clear BK225; clear HB; have BK225 := n0_; have HB := n1_; have BK226 := n2_; have GW226 := n3_; have GE226 := n4_; have NB225_226 := n5_; have NB226_225 := n6_; clear n0_ n1_ n2_ n3_ n4_ n5_ n6_; clear hb hbox hg; have p4 : 0 ≤ (0 : Int) := (by omega); have q4 : 0 < a0.size := (by have : (0 : Int) < (a0.size : Int) := dA; omega); have hx4 : ∀ h : 0 < a0.size, ((a0[0]'h).toNat : Int) = bt a0 0 := bt_at a0 0; clear p4; have qi4 : (0 < (a0.size : Int)) = True := eq_true dA; replace q4 := eq_true q4) | ((with_reducible refine gate_callee (f := 29) rfl ?_); refine goesL_ (some 22) rfl rfl Tryd.func29 (by kernel_rfl) rfl #[.int .u8 (bt a0 0)] rfl mapK ?_; (with_reducible refine (impl_isDigit.calls (bt a0 0) false _ A5.out).mono ?_); rintro e w' ⟨rfl, ⟨nd, rfl⟩⟩; refine ⟨_, rfl, ?_⟩))
    (try simp only [Act.put, List.setIfInBounds_toArray, List.set_cons_zero, List.set_cons_succ])
    go_cut [71] (fun v71 wc => ∃ (kq : Nat) (x71_41 : Bool), v71 = .bool x71_41 ∧ Aside0 (impl_lexOne.j1 kq a0 (bt a0 0) x71_41 = some (r1, r2, r3, r4, r5)) ∧ Aside0 (kq ≤ k) ∧ Aside0 (wc.heap[gb225]? = some (.cells #[.int .i64 a1_0, .string a1_1, .int .i64 a1_2, .int .i64 a1_3] 30 (0, 0))) ∧ Aside0 (wc.heap[gb226]? = some (.cells #[.int .i64 0, .string (⟨#[]⟩ : ByteArray), .int .i64 0, .int .i64 0] 30 (0, 0))) ∧ Aside0 (Below w.heap.size w wc))
    case first =>
     have H := HC42.out
     clear HC42
     by_cases c45 : (bt a0 0) = 47
     ·
      rw [if_pos c45] at H
      have c45b0 : ((bt a0 0) == 47) = true := beq_iff_eq.mpr c45
      have c45b1 : ((bt a0 0) != 47) = false := bne_eq_false_iff_eq.mpr c45
      clear c45
      (first | rw [c45b0] | (simp only [i64_w, i32_w]; rw [c45b0]) | skip)
      replace H := Option.bind_eq_some_iff.mp H
      obtain ⟨t237, A460, H⟩ := H
      replace H : (impl_lexOne.j1 k a0 (bt a0 0) (!t237)) = some (r1, r2, r3, r4, r5) := H
      have A46 := Aside0.mk A460
      clear A460
      have H' := Aside0.mk H
      clear H
      have hnb47 := NB225_226.out
      have hnc47 := NB226_225.out
      have hcz48_0 : w44.cell? ⟨gb225, 0, none⟩ = some (.int .i64 a1_0) := (blk_cell BK225.out 0).trans rfl
      have hcz48_1 : w44.cell? ⟨gb225, 1, none⟩ = some (.string a1_1) := (blk_cell BK225.out 1).trans rfl
      have hcz48_2 : w44.cell? ⟨gb225, 2, none⟩ = some (.int .i64 a1_2) := (blk_cell BK225.out 2).trans rfl
      have hcz48_3 : w44.cell? ⟨gb225, 3, none⟩ = some (.int .i64 a1_3) := (blk_cell BK225.out 3).trans rfl
      have hfz48_0 := blk_frozen BK225.out 0
      have hfz48_1 := blk_frozen BK225.out 1
      have hfz48_2 := blk_frozen BK225.out 2
      have hfz48_3 := blk_frozen BK225.out 3
      go_wp2_with (first | (go_at_call 32; (with_reducible refine (impl_endsOperand.calls a1_0 a1_1 a1_2 a1_3 t237 _ A46.out).mono ?_); rintro e w49 ⟨rfl, hb⟩; have n0_ := Aside0.mk (blk_below (g := gb225) (o := .cells #[.int .i64 a1_0, .string a1_1, .int .i64 a1_2, .int .i64 a1_3] 30 (0, 0)) (carB BK225.out) hb); have n1_ := Aside0.mk (blk_below (g := gb226) (o := .cells #[.int .i64 0, .string (⟨#[]⟩ : ByteArray), .int .i64 0, .int .i64 0] 30 (0, 0)) (carB BK226.out) hb); have n2_ := Aside0.mk (below_step (carH HB.out) hb); clear BK225; clear BK226; clear HB; have BK225 := n0_; have BK226 := n1_; have HB := n2_; clear n0_ n1_ n2_; (try clear hb); (try clear hb2); (try clear hk); (try clear hi)))
      go_meet
      case rel => exact ⟨_, (!t237), argK, H', ⟨by first | omega | exact Nat.le_refl _⟩, ⟨by (with_reducible repeat (first | refine blk_drewN ?_ _ | refine blk_drew ?_ | refine blk_alloc ?_ _)); exact BK225.out⟩, ⟨by (with_reducible repeat (first | refine blk_drewN ?_ _ | refine blk_drew ?_ | refine blk_alloc ?_ _)); exact BK226.out⟩, ⟨carH HB.out⟩⟩
     ·
      rw [if_neg c45] at H
      have c45b0 : ((bt a0 0) == 47) = false := beq_eq_false_iff_ne.mpr c45
      have c45b1 : ((bt a0 0) != 47) = true := bne_iff_ne.mpr c45
      (first | rw [c45b0] | (simp only [i64_w, i32_w]; rw [c45b0]) | skip)
      have H' := Aside0.mk H
      clear H
      go_wp2
      go_meet
      case rel => exact ⟨_, (false), argK, H', ⟨by first | omega | exact Nat.le_refl _⟩, ⟨by (with_reducible repeat (first | refine blk_drewN ?_ _ | refine blk_drew ?_ | refine blk_alloc ?_ _)); exact BK225.out⟩, ⟨by (with_reducible repeat (first | refine blk_drewN ?_ _ | refine blk_drew ?_ | refine blk_alloc ?_ _)); exact BK226.out⟩, ⟨carH HB.out⟩⟩
    case rest =>
     clear HC42
     try clear c1
     try clear p1
     try clear q1
     try clear hx1
     try clear c2
     try clear p2
     try clear c3
     try clear c3b0
     try clear c3b1
     try clear c4
     try clear p4
     try clear q4
     try clear hx4
     try clear qi4
     try clear c6
     try clear p6
     try clear c7
     try clear c11
     try clear c11b0
     try clear c12
     try clear c12b0
     try clear c13
     try clear c13b0
     try clear p14
     try clear q14
     try clear hx14
     try clear c15
     try clear c15b0
     try clear c15b1
     try clear c17
     try clear c17b0
     try clear p18
     try clear q18
     try clear hx18
     try clear c20
     try clear c21
     try clear c23
     try clear c23b0
     try clear c23b1
     try clear c24
     try clear c24b0
     try clear c24b1
     try clear c27
     try clear c29
     try clear c29b0
     try clear c29b1
     try clear c30
     try clear c30b0
     try clear c30b1
     try clear c31
     try clear c33
     try clear c35
     try clear c35b0
     try clear c35b1
     try clear c40
     try clear c45
     try clear c45b0
     try clear c45b1
     try clear c47
     try clear hcz28_0
     try clear hcz28_1
     try clear hcz28_2
     try clear hcz28_3
     try clear hcz34_0
     try clear hcz34_1
     try clear hcz34_2
     try clear hcz34_3
     try clear hcz41_0
     try clear hcz41_1
     try clear hcz41_2
     try clear hcz41_3
     try clear hcz48_0
     try clear hcz48_1
     try clear hcz48_2
     try clear hcz48_3
     try clear hfz28_0
     try clear hfz28_1
     try clear hfz28_2
     try clear hfz28_3
     try clear hfz34_0
     try clear hfz34_1
     try clear hfz34_2
     try clear hfz34_3
     try clear hfz41_0
     try clear hfz41_1
     try clear hfz41_2
     try clear hfz41_3
     try clear hfz48_0
     try clear hfz48_1
     try clear hfz48_2
     try clear hfz48_3
     try clear p1
     try clear p14
     try clear p18
     try clear p2
     try clear p4
     try clear p6
     try clear q1
     try clear q14
     try clear q18
     try clear q4
     obtain ⟨kq, x71_41, rfl, HA, HJ41, BK225, BK226, HB⟩ := hcut
     cases kq with
     | zero => exact absurd HA.out (by simp [impl_lexOne.j1])
     | succ kj41 =>
      have H := HA.out
      clear HA
      simp only [impl_lexOne.j1] at H
      by_cases c50 : x71_41 = true
      ·
       subst c50
       have H1 : ((impl_lexRe.f kj41 a0).bind fun bt238 => (some (3, bt238.1, 0, 0, bt238.2))) = some (r1, r2, r3, r4, r5) := by rw [if_pos rfl] at H; exact H
       clear H
       have H := H1
       clear H1
       replace H := Option.bind_eq_some_iff.mp H
       obtain ⟨⟨t238, t239⟩, A510, H⟩ := H
       replace H : (some (3, t238, 0, 0, t239)) = some (r1, r2, r3, r4, r5) := H
       have A51 := Aside0.mk A510
       clear A510
       simp only [Option.some.injEq, Prod.mk.injEq] at H
       obtain ⟨rfl, rfl, rfl, rfl, rfl⟩ := H
       go_wp2_with (first | ((with_reducible refine gate_callee (f := 33) rfl ?_); refine goesL_ (some 81) rfl rfl Tryd.func33 (by kernel_rfl) rfl #[.string a0] rfl mapK ?_; (with_reducible refine (impl_lexRe.calls kj41 a0 t238 t239 _ A51.out).mono ?_); rintro e w' ⟨rfl, ⟨nd, rfl⟩⟩; refine ⟨_, rfl, ?_⟩; (try (rw [drewN_self wc]; generalize hq_ : World.drewN wc _ = wc; have n0_ : Aside0 (wc.heap[gb225]? = some (.cells #[.int .i64 a1_0, .string a1_1, .int .i64 a1_2, .int .i64 a1_3] 30 (0, 0))) := ⟨by rw [← hq_]; exact (carB BK225.out)⟩; have n1_ : Aside0 (wc.heap[gb226]? = some (.cells #[.int .i64 0, .string (⟨#[]⟩ : ByteArray), .int .i64 0, .int .i64 0] 30 (0, 0))) := ⟨by rw [← hq_]; exact (carB BK226.out)⟩; have n2_ : Aside0 (Below w.heap.size w wc) := ⟨by rw [← hq_]; exact (carH HB.out)⟩; clear BK225 BK226 HB hq_; have BK225 := n0_; have BK226 := n1_; have HB := n2_; clear n0_ n1_ n2_)); have hnb52 := NB226_225.out; have hnc52 := NB225_226.out; have hcz53_0 : wc.cell? ⟨gb226, 0, none⟩ = some (.int .i64 0) := (blk_cell BK226.out 0).trans rfl; have hcz53_1 : wc.cell? ⟨gb226, 1, none⟩ = some (.string (⟨#[]⟩ : ByteArray)) := (blk_cell BK226.out 1).trans rfl; have hcz53_2 : wc.cell? ⟨gb226, 2, none⟩ = some (.int .i64 0) := (blk_cell BK226.out 2).trans rfl; have hcz53_3 : wc.cell? ⟨gb226, 3, none⟩ = some (.int .i64 0) := (blk_cell BK226.out 3).trans rfl; have hfz53_0 := blk_frozen BK226.out 0; have hfz53_1 := blk_frozen BK226.out 1; have hfz53_2 := blk_frozen BK226.out 2; have hfz53_3 := blk_frozen BK226.out 3))
       refine bodyPost_ret (results_ct rfl _ _ gb226 30 #[.int .i64 3, .string t238, .int .i64 0, .int .i64 0] (0, 0) _ rfl (carP BK226.out) Tryd.underlying30 rfl (by kernel_rfl)) rfl ?_
       exact ⟨retK, carH HB.out⟩
      ·
       replace c50 := Bool.eq_false_iff.mpr c50
       subst c50
       have H1 : ((impl_isLetter.f (bt a0 0)).bind fun t240 => (if t240 = true then ((impl_run_isNamed.f kj41 a0 0).bind fun t241 => (if 0 ≤ (mn t241 40) then (if (mn t241 40) ≤ (a0.size : Int) then (if t241 > 40 then (some (0, (⟨#[]⟩ : ByteArray), 0, 0, 0)) else ((impl_IsWord.f kj41 (a0.extract 0 ((mn t241 40) : Int).toNat)).bind fun t243 => (if t243 = true then (some (6, a0.extract 0 ((mn t241 40) : Int).toNat, 0, 0, t241)) else (if t241 < (a0.size : Int) then (if 0 ≤ t241 then (if (bt a0 t241) = 40 then (some (5, a0.extract 0 ((mn t241 40) : Int).toNat, 0, 0, t241)) else (some (4, a0.extract 0 ((mn t241 40) : Int).toNat, 0, 0, t241))) else (none)) else (some (4, a0.extract 0 ((mn t241 40) : Int).toNat, 0, 0, t241)))))) else (none)) else (none))) else ((strings_Split.f (⟨#[38, 38, 32, 124, 124, 32, 61, 61, 32, 33, 61, 32, 33, 126, 32, 60, 61, 32, 43, 61, 32, 123, 32, 125, 32, 40, 32, 41, 32, 91, 32, 93, 32, 59, 32, 44, 32, 61, 32, 33, 32, 60, 32, 43, 32, 45, 32, 42, 32, 47, 32, 37, 32, 126, 32, 63, 32, 58, 32, 36]⟩ : ByteArray) (⟨#[32]⟩ : ByteArray)).bind fun t244 => (impl_lexOne.l0 kj41 a0 t244 (t244.length : Int) 0)))) = some (r1, r2, r3, r4, r5) := by rw [if_neg (show ¬ (false = true) by decide)] at H; exact H
       clear H
       have H := H1
       clear H1
       replace H := Option.bind_eq_some_iff.mp H
       obtain ⟨t240, A540, H⟩ := H
       replace H : (if t240 = true then ((impl_run_isNamed.f kj41 a0 0).bind fun t241 => (if 0 ≤ (mn t241 40) then (if (mn t241 40) ≤ (a0.size : Int) then (if t241 > 40 then (some (0, (⟨#[]⟩ : ByteArray), 0, 0, 0)) else ((impl_IsWord.f kj41 (a0.extract 0 ((mn t241 40) : Int).toNat)).bind fun t243 => (if t243 = true then (some (6, a0.extract 0 ((mn t241 40) : Int).toNat, 0, 0, t241)) else (if t241 < (a0.size : Int) then (if 0 ≤ t241 then (if (bt a0 t241) = 40 then (some (5, a0.extract 0 ((mn t241 40) : Int).toNat, 0, 0, t241)) else (some (4, a0.extract 0 ((mn t241 40) : Int).toNat, 0, 0, t241))) else (none)) else (some (4, a0.extract 0 ((mn t241 40) : Int).toNat, 0, 0, t241)))))) else (none)) else (none))) else ((strings_Split.f (⟨#[38, 38, 32, 124, 124, 32, 61, 61, 32, 33, 61, 32, 33, 126, 32, 60, 61, 32, 43, 61, 32, 123, 32, 125, 32, 40, 32, 41, 32, 91, 32, 93, 32, 59, 32, 44, 32, 61, 32, 33, 32, 60, 32, 43, 32, 45, 32, 42, 32, 47, 32, 37, 32, 126, 32, 63, 32, 58, 32, 36]⟩ : ByteArray) (⟨#[32]⟩ : ByteArray)).bind fun t244 => (impl_lexOne.l0 kj41 a0 t244 (t244.length : Int) 0))) = some (r1, r2, r3, r4, r5) := H
       have A54 := Aside0.mk A540
       clear A540
       by_cases c55 : t240 = true
       ·
        subst c55
        have H1 : ((impl_run_isNamed.f kj41 a0 0).bind fun t241 => (if 0 ≤ (mn t241 40) then (if (mn t241 40) ≤ (a0.size : Int) then (if t241 > 40 then (some (0, (⟨#[]⟩ : ByteArray), 0, 0, 0)) else ((impl_IsWord.f kj41 (a0.extract 0 ((mn t241 40) : Int).toNat)).bind fun t243 => (if t243 = true then (some (6, a0.extract 0 ((mn t241 40) : Int).toNat, 0, 0, t241)) else (if t241 < (a0.size : Int) then (if 0 ≤ t241 then (if (bt a0 t241) = 40 then (some (5, a0.extract 0 ((mn t241 40) : Int).toNat, 0, 0, t241)) else (some (4, a0.extract 0 ((mn t241 40) : Int).toNat, 0, 0, t241))) else (none)) else (some (4, a0.extract 0 ((mn t241 40) : Int).toNat, 0, 0, t241)))))) else (none)) else (none))) = some (r1, r2, r3, r4, r5) := by rw [if_pos rfl] at H; exact H
        clear H
        have H := H1
        clear H1
        replace H := Option.bind_eq_some_iff.mp H
        obtain ⟨t241, A560, H⟩ := H
        replace H : (if 0 ≤ (mn t241 40) then (if (mn t241 40) ≤ (a0.size : Int) then (if t241 > 40 then (some (0, (⟨#[]⟩ : ByteArray), 0, 0, 0)) else ((impl_IsWord.f kj41 (a0.extract 0 ((mn t241 40) : Int).toNat)).bind fun t243 => (if t243 = true then (some (6, a0.extract 0 ((mn t241 40) : Int).toNat, 0, 0, t241)) else (if t241 < (a0.size : Int) then (if 0 ≤ t241 then (if (bt a0 t241) = 40 then (some (5, a0.extract 0 ((mn t241 40) : Int).toNat, 0, 0, t241)) else (some (4, a0.extract 0 ((mn t241 40) : Int).toNat, 0, 0, t241))) else (none)) else (some (4, a0.extract 0 ((mn t241 40) : Int).toNat, 0, 0, t241)))))) else (none)) else (none)) = some (r1, r2, r3, r4, r5) := H
        have A56 := Aside0.mk A560
        clear A560
        obtain ⟨ji57, hji57⟩ : ∃ j_ : Int, (mn t241 40) = j_ := ⟨_, rfl⟩
        replace H : (if 0 ≤ (ji57) then (if (ji57) ≤ (a0.size : Int) then (if t241 > 40 then (some (0, (⟨#[]⟩ : ByteArray), 0, 0, 0)) else ((impl_IsWord.f kj41 (a0.extract 0 ((ji57) : Int).toNat)).bind fun t243 => (if t243 = true then (some (6, a0.extract 0 ((ji57) : Int).toNat, 0, 0, t241)) else (if t241 < (a0.size : Int) then (if 0 ≤ t241 then (if (bt a0 t241) = 40 then (some (5, a0.extract 0 ((ji57) : Int).toNat, 0, 0, t241)) else (some (4, a0.extract 0 ((ji57) : Int).toNat, 0, 0, t241))) else (none)) else (some (4, a0.extract 0 ((ji57) : Int).toNat, 0, 0, t241)))))) else (none)) else (none)) = some (r1, r2, r3, r4, r5) := by first | (rw [hji57] at H; exact H) | (simp only [hji57] at H ⊢; exact H)
        (try rw [hji57] at A54)
        (try rw [hji57] at A56)
        (try (have hji57h : ji57 ≤ 40 := by (rw [← hji57]; unfold mn; (repeat' split) <;> omega)))
        (try (have hji57g : ji57 ≤ 64 := by omega))
        have hji57_ : (if 40 < t241 then 40 else t241) = ji57 := hji57
        by_cases c58 : 0 ≤ (ji57)
        ·
         rw [if_pos c58] at H
         have c58b0 := eq_true c58
         have c58b1 : decide (0 ≤ (ji57)) = true := decide_eq_true c58
         clear c58
         by_cases c59 : (ji57) ≤ (a0.size : Int)
         ·
          rw [if_pos c59] at H
          have c59b0 := eq_true c59
          have c59b1 : decide ((ji57) ≤ (a0.size : Int)) = true := decide_eq_true c59
          clear c59
          by_cases c60 : t241 > 40
          ·
           rw [if_pos c60] at H
           have c60b0 : decide (40 < t241) = true := decide_eq_true c60
           clear c60
           simp only [Option.some.injEq, Prod.mk.injEq] at H
           obtain ⟨rfl, rfl, rfl, rfl, rfl⟩ := H
           go_wp2_with (first | ((with_reducible refine gate_callee (f := 34) rfl ?_); refine goesL_ (some 89) rfl rfl Tryd.func34 (by kernel_rfl) rfl #[.int .u8 (bt a0 0)] rfl mapK ?_; (with_reducible refine (impl_isLetter.calls (bt a0 0) true _ A54.out).mono ?_); rintro e w' ⟨rfl, ⟨nd, rfl⟩⟩; refine ⟨_, rfl, ?_⟩; (try (rw [drewN_self wc]; generalize hq_ : World.drewN wc _ = wc; have n0_ : Aside0 (wc.heap[gb225]? = some (.cells #[.int .i64 a1_0, .string a1_1, .int .i64 a1_2, .int .i64 a1_3] 30 (0, 0))) := ⟨by rw [← hq_]; exact (carB BK225.out)⟩; have n1_ : Aside0 (wc.heap[gb226]? = some (.cells #[.int .i64 0, .string (⟨#[]⟩ : ByteArray), .int .i64 0, .int .i64 0] 30 (0, 0))) := ⟨by rw [← hq_]; exact (carB BK226.out)⟩; have n2_ : Aside0 (Below w.heap.size w wc) := ⟨by rw [← hq_]; exact (carH HB.out)⟩; clear BK225 BK226 HB hq_; have BK225 := n0_; have BK226 := n1_; have HB := n2_; clear n0_ n1_ n2_))) | ((with_reducible refine gate_callee (f := 19) rfl ?_); refine goesL_ (some 91) rfl rfl Tryd.func19 (by kernel_rfl) rfl #[.string a0, .int .i64 0, (.func (.func 35) #[] #[])] rfl mapK ?_; (with_reducible refine (impl_run_isNamed.calls kj41 a0 0  t241 _ A56.out).mono ?_); rintro e w' ⟨rfl, ⟨nd, rfl⟩⟩; refine ⟨_, rfl, ?_⟩; (try (rw [drewN_self wc]; generalize hq_ : World.drewN wc _ = wc; have n0_ : Aside0 (wc.heap[gb225]? = some (.cells #[.int .i64 a1_0, .string a1_1, .int .i64 a1_2, .int .i64 a1_3] 30 (0, 0))) := ⟨by rw [← hq_]; exact (carB BK225.out)⟩; have n1_ : Aside0 (wc.heap[gb226]? = some (.cells #[.int .i64 0, .string (⟨#[]⟩ : ByteArray), .int .i64 0, .int .i64 0] 30 (0, 0))) := ⟨by rw [← hq_]; exact (carB BK226.out)⟩; have n2_ : Aside0 (Below w.heap.size w wc) := ⟨by rw [← hq_]; exact (carH HB.out)⟩; clear BK225 BK226 HB hq_; have BK225 := n0_; have BK226 := n1_; have HB := n2_; clear n0_ n1_ n2_))) | ((with_reducible refine gate_dst (N := 15) rfl ?_); refine box_event ?hg (N := 15) ?hd (cs := #[.int .i64 0, .string (⟨#[]⟩ : ByteArray), .int .i64 0, .int .i64 0]) (t := 30) ?hr ?_; (case hd => rfl); (case hg => rfl); (case hr => first | (go_simp; done) | (go_simp; rfl)); intro gb242 hg w61 hbox hb; have n0_ := Aside0.mk (blk_below (g := gb225) (o := .cells #[.int .i64 a1_0, .string a1_1, .int .i64 a1_2, .int .i64 a1_3] 30 (0, 0)) (carB BK225.out) hb); have n1_ := Aside0.mk (blk_below (g := gb226) (o := .cells #[.int .i64 0, .string (⟨#[]⟩ : ByteArray), .int .i64 0, .int .i64 0] 30 (0, 0)) (carB BK226.out) hb); have n2_ := Aside0.mk (below_step (carH HB.out) hb); have n3_ := Aside0.mk (hbox); have n4_ := Aside0.mk ((by rw [hg]; exact (below_size (carH HB.out)) : w.heap.size ≤ gb242)); have n5_ := Aside0.mk ((by rw [hg]; exact (below_size (carH HB.out)) : w.heap.size ≤ gb242)); have n6_ := Aside0.mk ((by rw [hg]; exact Nat.ne_of_lt (blk_lt (g := gb225) (o := .cells #[.int .i64 a1_0, .string a1_1, .int .i64 a1_2, .int .i64 a1_3] 30 (0, 0)) (carB BK225.out)) : gb225 ≠ gb242)); have n7_ := Aside0.mk ((by rw [hg]; exact Nat.ne_of_gt (blk_lt (g := gb225) (o := .cells #[.int .i64 a1_0, .string a1_1, .int .i64 a1_2, .int .i64 a1_3] 30 (0, 0)) (carB BK225.out)) : gb242 ≠ gb225)); have n8_ := Aside0.mk ((by rw [hg]; exact Nat.ne_of_lt (blk_lt (g := gb226) (o := .cells #[.int .i64 0, .string (⟨#[]⟩ : ByteArray), .int .i64 0, .int .i64 0] 30 (0, 0)) (carB BK226.out)) : gb226 ≠ gb242)); have n9_ := Aside0.mk ((by rw [hg]; exact Nat.ne_of_gt (blk_lt (g := gb226) (o := .cells #[.int .i64 0, .string (⟨#[]⟩ : ByteArray), .int .i64 0, .int .i64 0] 30 (0, 0)) (carB BK226.out)) : gb242 ≠ gb226)); clear BK225; clear BK226; clear HB; have BK225 := n0_; have BK226 := n1_; have HB := n2_; have BK242 := n3_; have GW242 := n4_; have GE242 := n5_; have NB225_242 := n6_; have NB242_225 := n7_; have NB226_242 := n8_; have NB242_226 := n9_; clear n0_ n1_ n2_ n3_ n4_ n5_ n6_ n7_ n8_ n9_; clear hb hbox hg; have hnb62 := NB242_225.out; have hnc62 := NB225_242.out; have hnb63 := NB242_226.out; have hnc63 := NB226_242.out; have hcz64_0 : w61.cell? ⟨gb242, 0, none⟩ = some (.int .i64 0) := (blk_cell BK242.out 0).trans rfl; have hcz64_1 : w61.cell? ⟨gb242, 1, none⟩ = some (.string (⟨#[]⟩ : ByteArray)) := (blk_cell BK242.out 1).trans rfl; have hcz64_2 : w61.cell? ⟨gb242, 2, none⟩ = some (.int .i64 0) := (blk_cell BK242.out 2).trans rfl; have hcz64_3 : w61.cell? ⟨gb242, 3, none⟩ = some (.int .i64 0) := (blk_cell BK242.out 3).trans rfl; have hfz64_0 := blk_frozen BK242.out 0; have hfz64_1 := blk_frozen BK242.out 1; have hfz64_2 := blk_frozen BK242.out 2; have hfz64_3 := blk_frozen BK242.out 3; have hnb65 := NB226_225.out; have hnc65 := NB225_226.out; have hcz66_0 : w61.cell? ⟨gb226, 0, none⟩ = some (.int .i64 0) := (blk_cell BK226.out 0).trans rfl; have hcz66_1 : w61.cell? ⟨gb226, 1, none⟩ = some (.string (⟨#[]⟩ : ByteArray)) := (blk_cell BK226.out 1).trans rfl; have hcz66_2 : w61.cell? ⟨gb226, 2, none⟩ = some (.int .i64 0) := (blk_cell BK226.out 2).trans rfl; have hcz66_3 : w61.cell? ⟨gb226, 3, none⟩ = some (.int .i64 0) := (blk_cell BK226.out 3).trans rfl; have hfz66_0 := blk_frozen BK226.out 0; have hfz66_1 := blk_frozen BK226.out 1; have hfz66_2 := blk_frozen BK226.out 2; have hfz66_3 := blk_frozen BK226.out 3))
           refine bodyPost_ret (results_ct rfl _ _ gb226 30 #[.int .i64 0, .string (⟨#[]⟩ : ByteArray), .int .i64 0, .int .i64 0] (0, 0) _ rfl (by (with_reducible repeat (first | refine blk_drewN ?_ _ | refine blk_drew ?_ | refine blk_alloc ?_ _)); refine blk_put (cs := #[.int .i64 0, .string (⟨#[]⟩ : ByteArray), .int .i64 0, .int .i64 0]) ?_ 3 _ rfl; (with_reducible repeat (first | refine blk_drewN ?_ _ | refine blk_drew ?_ | refine blk_alloc ?_ _)); refine blk_put (cs := #[.int .i64 0, .string (⟨#[]⟩ : ByteArray), .int .i64 0, .int .i64 0]) ?_ 2 _ rfl; (with_reducible repeat (first | refine blk_drewN ?_ _ | refine blk_drew ?_ | refine blk_alloc ?_ _)); refine blk_put (cs := #[.int .i64 0, .string (⟨#[]⟩ : ByteArray), .int .i64 0, .int .i64 0]) ?_ 1 _ rfl; (with_reducible repeat (first | refine blk_drewN ?_ _ | refine blk_drew ?_ | refine blk_alloc ?_ _)); refine blk_put (cs := #[.int .i64 0, .string (⟨#[]⟩ : ByteArray), .int .i64 0, .int .i64 0]) ?_ 0 _ rfl; (with_reducible repeat (first | refine blk_drewN ?_ _ | refine blk_drew ?_ | refine blk_alloc ?_ _)); refine blk_far ?_ NB226_242.out _; (with_reducible repeat (first | refine blk_drewN ?_ _ | refine blk_drew ?_ | refine blk_alloc ?_ _)); refine blk_far ?_ NB226_242.out _; (with_reducible repeat (first | refine blk_drewN ?_ _ | refine blk_drew ?_ | refine blk_alloc ?_ _)); refine blk_far ?_ NB226_242.out _; (with_reducible repeat (first | refine blk_drewN ?_ _ | refine blk_drew ?_ | refine blk_alloc ?_ _)); refine blk_far ?_ NB226_242.out _; (with_reducible repeat (first | refine blk_drewN ?_ _ | refine blk_drew ?_ | refine blk_alloc ?_ _)); exact BK226.out) Tryd.underlying30 rfl (by kernel_rfl)) rfl ?_
           exact ⟨by first | rfl | (simp [errW_none, errW_some] <;> rfl) | (simp only [← hji57]; first | rfl | (simp [errW_none, errW_some] <;> rfl)) | (simp [*, errW_none, errW_some] <;> rfl) | (simp only [xne_nil, xeq_nil]; first | rfl | (simp [errW_none, errW_some] <;> rfl)), carH HB.out⟩
          ·
           rw [if_neg c60] at H
           have c60b0 : decide (40 < t241) = false := decide_eq_false c60
           clear c60
           replace H := Option.bind_eq_some_iff.mp H
           obtain ⟨t243, A670, H⟩ := H
           replace H : (if t243 = true then (some (6, a0.extract 0 ((ji57) : Int).toNat, 0, 0, t241)) else (if t241 < (a0.size : Int) then (if 0 ≤ t241 then (if (bt a0 t241) = 40 then (some (5, a0.extract 0 ((ji57) : Int).toNat, 0, 0, t241)) else (some (4, a0.extract 0 ((ji57) : Int).toNat, 0, 0, t241))) else (none)) else (some (4, a0.extract 0 ((ji57) : Int).toNat, 0, 0, t241)))) = some (r1, r2, r3, r4, r5) := H
           have A67 := Aside0.mk A670
           clear A670
           by_cases c68 : t243 = true
           ·
            subst c68
            have H1 : (some (6, a0.extract 0 ((ji57) : Int).toNat, 0, 0, t241)) = some (r1, r2, r3, r4, r5) := by rw [if_pos rfl] at H; exact H
            clear H
            have H := H1
            clear H1
            simp only [Option.some.injEq, Prod.mk.injEq] at H
            obtain ⟨rfl, rfl, rfl, rfl, rfl⟩ := H
            go_wp2_with (first | ((with_reducible refine gate_callee (f := 34) rfl ?_); refine goesL_ (some 89) rfl rfl Tryd.func34 (by kernel_rfl) rfl #[.int .u8 (bt a0 0)] rfl mapK ?_; (with_reducible refine (impl_isLetter.calls (bt a0 0) true _ A54.out).mono ?_); rintro e w' ⟨rfl, ⟨nd, rfl⟩⟩; refine ⟨_, rfl, ?_⟩; (try (rw [drewN_self wc]; generalize hq_ : World.drewN wc _ = wc; have n0_ : Aside0 (wc.heap[gb225]? = some (.cells #[.int .i64 a1_0, .string a1_1, .int .i64 a1_2, .int .i64 a1_3] 30 (0, 0))) := ⟨by rw [← hq_]; exact (carB BK225.out)⟩; have n1_ : Aside0 (wc.heap[gb226]? = some (.cells #[.int .i64 0, .string (⟨#[]⟩ : ByteArray), .int .i64 0, .int .i64 0] 30 (0, 0))) := ⟨by rw [← hq_]; exact (carB BK226.out)⟩; have n2_ : Aside0 (Below w.heap.size w wc) := ⟨by rw [← hq_]; exact (carH HB.out)⟩; clear BK225 BK226 HB hq_; have BK225 := n0_; have BK226 := n1_; have HB := n2_; clear n0_ n1_ n2_))) | ((with_reducible refine gate_callee (f := 19) rfl ?_); refine goesL_ (some 91) rfl rfl Tryd.func19 (by kernel_rfl) rfl #[.string a0, .int .i64 0, (.func (.func 35) #[] #[])] rfl mapK ?_; (with_reducible refine (impl_run_isNamed.calls kj41 a0 0  t241 _ A56.out).mono ?_); rintro e w' ⟨rfl, ⟨nd, rfl⟩⟩; refine ⟨_, rfl, ?_⟩; (try (rw [drewN_self wc]; generalize hq_ : World.drewN wc _ = wc; have n0_ : Aside0 (wc.heap[gb225]? = some (.cells #[.int .i64 a1_0, .string a1_1, .int .i64 a1_2, .int .i64 a1_3] 30 (0, 0))) := ⟨by rw [← hq_]; exact (carB BK225.out)⟩; have n1_ : Aside0 (wc.heap[gb226]? = some (.cells #[.int .i64 0, .string (⟨#[]⟩ : ByteArray), .int .i64 0, .int .i64 0] 30 (0, 0))) := ⟨by rw [← hq_]; exact (carB BK226.out)⟩; have n2_ : Aside0 (Below w.heap.size w wc) := ⟨by rw [← hq_]; exact (carH HB.out)⟩; clear BK225 BK226 HB hq_; have BK225 := n0_; have BK226 := n1_; have HB := n2_; clear n0_ n1_ n2_))) | ((with_reducible refine gate_dst (N := 15) rfl ?_); refine box_event ?hg (N := 15) ?hd (cs := #[.int .i64 0, .string (⟨#[]⟩ : ByteArray), .int .i64 0, .int .i64 0]) (t := 30) ?hr ?_; (case hd => rfl); (case hg => rfl); (case hr => first | (go_simp; done) | (go_simp; rfl)); intro gb242 hg w69 hbox hb; have n0_ := Aside0.mk (blk_below (g := gb225) (o := .cells #[.int .i64 a1_0, .string a1_1, .int .i64 a1_2, .int .i64 a1_3] 30 (0, 0)) (carB BK225.out) hb); have n1_ := Aside0.mk (blk_below (g := gb226) (o := .cells #[.int .i64 0, .string (⟨#[]⟩ : ByteArray), .int .i64 0, .int .i64 0] 30 (0, 0)) (carB BK226.out) hb); have n2_ := Aside0.mk (below_step (carH HB.out) hb); have n3_ := Aside0.mk (hbox); have n4_ := Aside0.mk ((by rw [hg]; exact (below_size (carH HB.out)) : w.heap.size ≤ gb242)); have n5_ := Aside0.mk ((by rw [hg]; exact (below_size (carH HB.out)) : w.heap.size ≤ gb242)); have n6_ := Aside0.mk ((by rw [hg]; exact Nat.ne_of_lt (blk_lt (g := gb225) (o := .cells #[.int .i64 a1_0, .string a1_1, .int .i64 a1_2, .int .i64 a1_3] 30 (0, 0)) (carB BK225.out)) : gb225 ≠ gb242)); have n7_ := Aside0.mk ((by rw [hg]; exact Nat.ne_of_gt (blk_lt (g := gb225) (o := .cells #[.int .i64 a1_0, .string a1_1, .int .i64 a1_2, .int .i64 a1_3] 30 (0, 0)) (carB BK225.out)) : gb242 ≠ gb225)); have n8_ := Aside0.mk ((by rw [hg]; exact Nat.ne_of_lt (blk_lt (g := gb226) (o := .cells #[.int .i64 0, .string (⟨#[]⟩ : ByteArray), .int .i64 0, .int .i64 0] 30 (0, 0)) (carB BK226.out)) : gb226 ≠ gb242)); have n9_ := Aside0.mk ((by rw [hg]; exact Nat.ne_of_gt (blk_lt (g := gb226) (o := .cells #[.int .i64 0, .string (⟨#[]⟩ : ByteArray), .int .i64 0, .int .i64 0] 30 (0, 0)) (carB BK226.out)) : gb242 ≠ gb226)); clear BK225; clear BK226; clear HB; have BK225 := n0_; have BK226 := n1_; have HB := n2_; have BK242 := n3_; have GW242 := n4_; have GE242 := n5_; have NB225_242 := n6_; have NB242_225 := n7_; have NB226_242 := n8_; have NB242_226 := n9_; clear n0_ n1_ n2_ n3_ n4_ n5_ n6_ n7_ n8_ n9_; clear hb hbox hg; have hnb70 := NB242_225.out; have hnc70 := NB225_242.out; have hnb71 := NB242_226.out; have hnc71 := NB226_242.out; have hcz72_0 : w69.cell? ⟨gb242, 0, none⟩ = some (.int .i64 0) := (blk_cell BK242.out 0).trans rfl; have hcz72_1 : w69.cell? ⟨gb242, 1, none⟩ = some (.string (⟨#[]⟩ : ByteArray)) := (blk_cell BK242.out 1).trans rfl; have hcz72_2 : w69.cell? ⟨gb242, 2, none⟩ = some (.int .i64 0) := (blk_cell BK242.out 2).trans rfl; have hcz72_3 : w69.cell? ⟨gb242, 3, none⟩ = some (.int .i64 0) := (blk_cell BK242.out 3).trans rfl; have hfz72_0 := blk_frozen BK242.out 0; have hfz72_1 := blk_frozen BK242.out 1; have hfz72_2 := blk_frozen BK242.out 2; have hfz72_3 := blk_frozen BK242.out 3) | ((with_reducible refine gate_callee (f := 36) rfl ?_); refine goesL_ (some 104) rfl rfl Tryd.func36 (by kernel_rfl) rfl #[.string (a0.extract 0 ((ji57) : Int).toNat)] rfl (by (try simp only [List.map_toArray, List.map_cons, List.map_nil]); first | done | (simp only [hji57]; rfl) | rfl | (simp only [List.length_drop, List.length_take]; rfl)) ?_; (with_reducible refine (impl_IsWord.calls kj41 (a0.extract 0 ((ji57) : Int).toNat) true _ A67.out).mono ?_); rintro e w73 ⟨rfl, hb⟩; refine ⟨_, rfl, ?_⟩; have n0_ := Aside0.mk (blk_below (g := gb225) (o := .cells #[.int .i64 a1_0, .string a1_1, .int .i64 a1_2, .int .i64 a1_3] 30 (0, 0)) (carF BK225.out NB225_242.out) hb); have n1_ := Aside0.mk (blk_below (g := gb226) (o := .cells #[.int .i64 0, .string (⟨#[]⟩ : ByteArray), .int .i64 0, .int .i64 0] 30 (0, 0)) (carF BK226.out NB226_242.out) hb); have n2_ := Aside0.mk (blk_below (g := gb242) (o := .cells #[.int .i64 4, .string (a0.extract 0 ((ji57) : Int).toNat), .int .i64 0, .int .i64 0] 30 (0, 0)) (carP BK242.out) hb); have n3_ := Aside0.mk (below_step (carH HB.out) hb); clear BK225; clear BK226; clear BK242; clear HB; have BK225 := n0_; have BK226 := n1_; have BK242 := n2_; have HB := n3_; clear n0_ n1_ n2_ n3_; (try clear hb); (try clear hb2); (try clear hk); (try clear hi); have hcz74_0 : w73.cell? ⟨gb242, 0, none⟩ = some (.int .i64 4) := (blk_cell BK242.out 0).trans rfl; have hcz74_1 : w73.cell? ⟨gb242, 1, none⟩ = some (.string (a0.extract 0 ((ji57) : Int).toNat)) := (blk_cell BK242.out 1).trans rfl; have hcz74_2 : w73.cell? ⟨gb242, 2, none⟩ = some (.int .i64 0) := (blk_cell BK242.out 2).trans rfl; have hcz74_3 : w73.cell? ⟨gb242, 3, none⟩ = some (.int .i64 0) := (blk_cell BK242.out 3).trans rfl; have hfz74_0 := blk_frozen BK242.out 0; have hfz74_1 := blk_frozen BK242.out 1; have hfz74_2 := blk_frozen BK242.out 2; have hfz74_3 := blk_frozen BK242.out 3; have hnb75 := NB226_225.out; have hnc75 := NB225_226.out; have hcz76_0 : w73.cell? ⟨gb226, 0, none⟩ = some (.int .i64 0) := (blk_cell BK226.out 0).trans rfl; have hcz76_1 : w73.cell? ⟨gb226, 1, none⟩ = some (.string (⟨#[]⟩ : ByteArray)) := (blk_cell BK226.out 1).trans rfl; have hcz76_2 : w73.cell? ⟨gb226, 2, none⟩ = some (.int .i64 0) := (blk_cell BK226.out 2).trans rfl; have hcz76_3 : w73.cell? ⟨gb226, 3, none⟩ = some (.int .i64 0) := (blk_cell BK226.out 3).trans rfl; have hfz76_0 := blk_frozen BK226.out 0; have hfz76_1 := blk_frozen BK226.out 1; have hfz76_2 := blk_frozen BK226.out 2; have hfz76_3 := blk_frozen BK226.out 3))
            refine bodyPost_ret (results_ct rfl _ _ gb226 30 #[.int .i64 6, .string (a0.extract 0 ((ji57) : Int).toNat), .int .i64 0, .int .i64 0] (0, 0) _ rfl (by (with_reducible repeat (first | refine blk_drewN ?_ _ | refine blk_drew ?_ | refine blk_alloc ?_ _)); refine blk_put (cs := #[.int .i64 6, .string (a0.extract 0 ((ji57) : Int).toNat), .int .i64 0, .int .i64 0]) ?_ 3 _ rfl; (with_reducible repeat (first | refine blk_drewN ?_ _ | refine blk_drew ?_ | refine blk_alloc ?_ _)); refine blk_put (cs := #[.int .i64 6, .string (a0.extract 0 ((ji57) : Int).toNat), .int .i64 0, .int .i64 0]) ?_ 2 _ rfl; (with_reducible repeat (first | refine blk_drewN ?_ _ | refine blk_drew ?_ | refine blk_alloc ?_ _)); refine blk_put (cs := #[.int .i64 6, .string (⟨#[]⟩ : ByteArray), .int .i64 0, .int .i64 0]) ?_ 1 _ rfl; (with_reducible repeat (first | refine blk_drewN ?_ _ | refine blk_drew ?_ | refine blk_alloc ?_ _)); refine blk_put (cs := #[.int .i64 0, .string (⟨#[]⟩ : ByteArray), .int .i64 0, .int .i64 0]) ?_ 0 _ rfl; (with_reducible repeat (first | refine blk_drewN ?_ _ | refine blk_drew ?_ | refine blk_alloc ?_ _)); refine blk_far ?_ NB226_242.out _; (with_reducible repeat (first | refine blk_drewN ?_ _ | refine blk_drew ?_ | refine blk_alloc ?_ _)); exact BK226.out) Tryd.underlying30 rfl (by kernel_rfl)) rfl ?_
            exact ⟨by first | rfl | (simp [errW_none, errW_some] <;> rfl) | (simp only [← hji57]; first | rfl | (simp [errW_none, errW_some] <;> rfl)) | (simp [*, errW_none, errW_some] <;> rfl) | (simp only [xne_nil, xeq_nil]; first | rfl | (simp [errW_none, errW_some] <;> rfl)), carH HB.out⟩
           ·
            replace c68 := Bool.eq_false_iff.mpr c68
            subst c68
            have H1 : (if t241 < (a0.size : Int) then (if 0 ≤ t241 then (if (bt a0 t241) = 40 then (some (5, a0.extract 0 ((ji57) : Int).toNat, 0, 0, t241)) else (some (4, a0.extract 0 ((ji57) : Int).toNat, 0, 0, t241))) else (none)) else (some (4, a0.extract 0 ((ji57) : Int).toNat, 0, 0, t241))) = some (r1, r2, r3, r4, r5) := by rw [if_neg (show ¬ (false = true) by decide)] at H; exact H
            clear H
            have H := H1
            clear H1
            by_cases c77 : t241 < (a0.size : Int)
            ·
             rw [if_pos c77] at H
             have c77b0 : decide (t241 < (a0.size : Int)) = true := decide_eq_true c77
             clear c77
             by_cases c78 : 0 ≤ t241
             ·
              rw [if_pos c78] at H
              have c78b0 : decide (0 ≤ t241) = true := decide_eq_true c78
              clear c78
              by_cases c80 : (bt a0 t241) = 40
              ·
               rw [if_pos c80] at H
               have c80b0 : ((bt a0 t241) == 40) = true := beq_iff_eq.mpr c80
               have c80b1 : ((bt a0 t241) != 40) = false := bne_eq_false_iff_eq.mpr c80
               clear c80
               simp only [Option.some.injEq, Prod.mk.injEq] at H
               obtain ⟨rfl, rfl, rfl, rfl, rfl⟩ := H
               go_wp2_with (first | ((with_reducible refine gate_callee (f := 34) rfl ?_); refine goesL_ (some 89) rfl rfl Tryd.func34 (by kernel_rfl) rfl #[.int .u8 (bt a0 0)] rfl mapK ?_; (with_reducible refine (impl_isLetter.calls (bt a0 0) true _ A54.out).mono ?_); rintro e w' ⟨rfl, ⟨nd, rfl⟩⟩; refine ⟨_, rfl, ?_⟩; (try (rw [drewN_self wc]; generalize hq_ : World.drewN wc _ = wc; have n0_ : Aside0 (wc.heap[gb225]? = some (.cells #[.int .i64 a1_0, .string a1_1, .int .i64 a1_2, .int .i64 a1_3] 30 (0, 0))) := ⟨by rw [← hq_]; exact (carB BK225.out)⟩; have n1_ : Aside0 (wc.heap[gb226]? = some (.cells #[.int .i64 0, .string (⟨#[]⟩ : ByteArray), .int .i64 0, .int .i64 0] 30 (0, 0))) := ⟨by rw [← hq_]; exact (carB BK226.out)⟩; have n2_ : Aside0 (Below w.heap.size w wc) := ⟨by rw [← hq_]; exact (carH HB.out)⟩; clear BK225 BK226 HB hq_; have BK225 := n0_; have BK226 := n1_; have HB := n2_; clear n0_ n1_ n2_))) | ((with_reducible refine gate_callee (f := 19) rfl ?_); refine goesL_ (some 91) rfl rfl Tryd.func19 (by kernel_rfl) rfl #[.string a0, .int .i64 0, (.func (.func 35) #[] #[])] rfl mapK ?_; (with_reducible refine (impl_run_isNamed.calls kj41 a0 0  t241 _ A56.out).mono ?_); rintro e w' ⟨rfl, ⟨nd, rfl⟩⟩; refine ⟨_, rfl, ?_⟩; (try (rw [drewN_self wc]; generalize hq_ : World.drewN wc _ = wc; have n0_ : Aside0 (wc.heap[gb225]? = some (.cells #[.int .i64 a1_0, .string a1_1, .int .i64 a1_2, .int .i64 a1_3] 30 (0, 0))) := ⟨by rw [← hq_]; exact (carB BK225.out)⟩; have n1_ : Aside0 (wc.heap[gb226]? = some (.cells #[.int .i64 0, .string (⟨#[]⟩ : ByteArray), .int .i64 0, .int .i64 0] 30 (0, 0))) := ⟨by rw [← hq_]; exact (carB BK226.out)⟩; have n2_ : Aside0 (Below w.heap.size w wc) := ⟨by rw [← hq_]; exact (carH HB.out)⟩; clear BK225 BK226 HB hq_; have BK225 := n0_; have BK226 := n1_; have HB := n2_; clear n0_ n1_ n2_))) | ((with_reducible refine gate_dst (N := 15) rfl ?_); refine box_event ?hg (N := 15) ?hd (cs := #[.int .i64 0, .string (⟨#[]⟩ : ByteArray), .int .i64 0, .int .i64 0]) (t := 30) ?hr ?_; (case hd => rfl); (case hg => rfl); (case hr => first | (go_simp; done) | (go_simp; rfl)); intro gb242 hg w81 hbox hb; have n0_ := Aside0.mk (blk_below (g := gb225) (o := .cells #[.int .i64 a1_0, .string a1_1, .int .i64 a1_2, .int .i64 a1_3] 30 (0, 0)) (carB BK225.out) hb); have n1_ := Aside0.mk (blk_below (g := gb226) (o := .cells #[.int .i64 0, .string (⟨#[]⟩ : ByteArray), .int .i64 0, .int .i64 0] 30 (0, 0)) (carB BK226.out) hb); have n2_ := Aside0.mk (below_step (carH HB.out) hb); have n3_ := Aside0.mk (hbox); have n4_ := Aside0.mk ((by rw [hg]; exact (below_size (carH HB.out)) : w.heap.size ≤ gb242)); have n5_ := Aside0.mk ((by rw [hg]; exact (below_size (carH HB.out)) : w.heap.size ≤ gb242)); have n6_ := Aside0.mk ((by rw [hg]; exact Nat.ne_of_lt (blk_lt (g := gb225) (o := .cells #[.int .i64 a1_0, .string a1_1, .int .i64 a1_2, .int .i64 a1_3] 30 (0, 0)) (carB BK225.out)) : gb225 ≠ gb242)); have n7_ := Aside0.mk ((by rw [hg]; exact Nat.ne_of_gt (blk_lt (g := gb225) (o := .cells #[.int .i64 a1_0, .string a1_1, .int .i64 a1_2, .int .i64 a1_3] 30 (0, 0)) (carB BK225.out)) : gb242 ≠ gb225)); have n8_ := Aside0.mk ((by rw [hg]; exact Nat.ne_of_lt (blk_lt (g := gb226) (o := .cells #[.int .i64 0, .string (⟨#[]⟩ : ByteArray), .int .i64 0, .int .i64 0] 30 (0, 0)) (carB BK226.out)) : gb226 ≠ gb242)); have n9_ := Aside0.mk ((by rw [hg]; exact Nat.ne_of_gt (blk_lt (g := gb226) (o := .cells #[.int .i64 0, .string (⟨#[]⟩ : ByteArray), .int .i64 0, .int .i64 0] 30 (0, 0)) (carB BK226.out)) : gb242 ≠ gb226)); clear BK225; clear BK226; clear HB; have BK225 := n0_; have BK226 := n1_; have HB := n2_; have BK242 := n3_; have GW242 := n4_; have GE242 := n5_; have NB225_242 := n6_; have NB242_225 := n7_; have NB226_242 := n8_; have NB242_226 := n9_; clear n0_ n1_ n2_ n3_ n4_ n5_ n6_ n7_ n8_ n9_; clear hb hbox hg; have hnb82 := NB242_225.out; have hnc82 := NB225_242.out; have hnb83 := NB242_226.out; have hnc83 := NB226_242.out; have hcz84_0 : w81.cell? ⟨gb242, 0, none⟩ = some (.int .i64 0) := (blk_cell BK242.out 0).trans rfl; have hcz84_1 : w81.cell? ⟨gb242, 1, none⟩ = some (.string (⟨#[]⟩ : ByteArray)) := (blk_cell BK242.out 1).trans rfl; have hcz84_2 : w81.cell? ⟨gb242, 2, none⟩ = some (.int .i64 0) := (blk_cell BK242.out 2).trans rfl; have hcz84_3 : w81.cell? ⟨gb242, 3, none⟩ = some (.int .i64 0) := (blk_cell BK242.out 3).trans rfl; have hfz84_0 := blk_frozen BK242.out 0; have hfz84_1 := blk_frozen BK242.out 1; have hfz84_2 := blk_frozen BK242.out 2; have hfz84_3 := blk_frozen BK242.out 3) | ((with_reducible refine gate_callee (f := 36) rfl ?_); refine goesL_ (some 104) rfl rfl Tryd.func36 (by kernel_rfl) rfl #[.string (a0.extract 0 ((ji57) : Int).toNat)] rfl (by (try simp only [List.map_toArray, List.map_cons, List.map_nil]); first | done | (simp only [hji57]; rfl) | rfl | (simp only [List.length_drop, List.length_take]; rfl)) ?_; (with_reducible refine (impl_IsWord.calls kj41 (a0.extract 0 ((ji57) : Int).toNat) false _ A67.out).mono ?_); rintro e w85 ⟨rfl, hb⟩; refine ⟨_, rfl, ?_⟩; have n0_ := Aside0.mk (blk_below (g := gb225) (o := .cells #[.int .i64 a1_0, .string a1_1, .int .i64 a1_2, .int .i64 a1_3] 30 (0, 0)) (carF BK225.out NB225_242.out) hb); have n1_ := Aside0.mk (blk_below (g := gb226) (o := .cells #[.int .i64 0, .string (⟨#[]⟩ : ByteArray), .int .i64 0, .int .i64 0] 30 (0, 0)) (carF BK226.out NB226_242.out) hb); have n2_ := Aside0.mk (blk_below (g := gb242) (o := .cells #[.int .i64 4, .string (a0.extract 0 ((ji57) : Int).toNat), .int .i64 0, .int .i64 0] 30 (0, 0)) (carP BK242.out) hb); have n3_ := Aside0.mk (below_step (carH HB.out) hb); clear BK225; clear BK226; clear BK242; clear HB; have BK225 := n0_; have BK226 := n1_; have BK242 := n2_; have HB := n3_; clear n0_ n1_ n2_ n3_; (try clear hb); (try clear hb2); (try clear hk); (try clear hi); have p79 : 0 ≤ (t241 : Int) := dA; have q79 : t241 < (a0.size : Int) := dA; have hx79 := bt_at a0 t241; replace p79 := eq_true p79; replace q79 := eq_true q79; have hcz86_0 : w85.cell? ⟨gb242, 0, none⟩ = some (.int .i64 4) := (blk_cell BK242.out 0).trans rfl; have hcz86_1 : w85.cell? ⟨gb242, 1, none⟩ = some (.string (a0.extract 0 ((ji57) : Int).toNat)) := (blk_cell BK242.out 1).trans rfl; have hcz86_2 : w85.cell? ⟨gb242, 2, none⟩ = some (.int .i64 0) := (blk_cell BK242.out 2).trans rfl; have hcz86_3 : w85.cell? ⟨gb242, 3, none⟩ = some (.int .i64 0) := (blk_cell BK242.out 3).trans rfl; have hfz86_0 := blk_frozen BK242.out 0; have hfz86_1 := blk_frozen BK242.out 1; have hfz86_2 := blk_frozen BK242.out 2; have hfz86_3 := blk_frozen BK242.out 3; have hnb87 := NB226_225.out; have hnc87 := NB225_226.out; have hcz88_0 : w85.cell? ⟨gb226, 0, none⟩ = some (.int .i64 0) := (blk_cell BK226.out 0).trans rfl; have hcz88_1 : w85.cell? ⟨gb226, 1, none⟩ = some (.string (⟨#[]⟩ : ByteArray)) := (blk_cell BK226.out 1).trans rfl; have hcz88_2 : w85.cell? ⟨gb226, 2, none⟩ = some (.int .i64 0) := (blk_cell BK226.out 2).trans rfl; have hcz88_3 : w85.cell? ⟨gb226, 3, none⟩ = some (.int .i64 0) := (blk_cell BK226.out 3).trans rfl; have hfz88_0 := blk_frozen BK226.out 0; have hfz88_1 := blk_frozen BK226.out 1; have hfz88_2 := blk_frozen BK226.out 2; have hfz88_3 := blk_frozen BK226.out 3))
               refine bodyPost_ret (results_ct rfl _ _ gb226 30 #[.int .i64 5, .string (a0.extract 0 ((ji57) : Int).toNat), .int .i64 0, .int .i64 0] (0, 0) _ rfl (by (with_reducible repeat (first | refine blk_drewN ?_ _ | refine blk_drew ?_ | refine blk_alloc ?_ _)); refine blk_put (cs := #[.int .i64 5, .string (a0.extract 0 ((ji57) : Int).toNat), .int .i64 0, .int .i64 0]) ?_ 3 _ rfl; (with_reducible repeat (first | refine blk_drewN ?_ _ | refine blk_drew ?_ | refine blk_alloc ?_ _)); refine blk_put (cs := #[.int .i64 5, .string (a0.extract 0 ((ji57) : Int).toNat), .int .i64 0, .int .i64 0]) ?_ 2 _ rfl; (with_reducible repeat (first | refine blk_drewN ?_ _ | refine blk_drew ?_ | refine blk_alloc ?_ _)); refine blk_put (cs := #[.int .i64 5, .string (⟨#[]⟩ : ByteArray), .int .i64 0, .int .i64 0]) ?_ 1 _ rfl; (with_reducible repeat (first | refine blk_drewN ?_ _ | refine blk_drew ?_ | refine blk_alloc ?_ _)); refine blk_put (cs := #[.int .i64 0, .string (⟨#[]⟩ : ByteArray), .int .i64 0, .int .i64 0]) ?_ 0 _ rfl; (with_reducible repeat (first | refine blk_drewN ?_ _ | refine blk_drew ?_ | refine blk_alloc ?_ _)); refine blk_far ?_ NB226_242.out _; (with_reducible repeat (first | refine blk_drewN ?_ _ | refine blk_drew ?_ | refine blk_alloc ?_ _)); exact BK226.out) Tryd.underlying30 rfl (by kernel_rfl)) rfl ?_
               exact ⟨by first | rfl | (simp [errW_none, errW_some] <;> rfl) | (simp only [← hji57]; first | rfl | (simp [errW_none, errW_some] <;> rfl)) | (simp [*, errW_none, errW_some] <;> rfl) | (simp only [xne_nil, xeq_nil]; first | rfl | (simp [errW_none, errW_some] <;> rfl)), carH HB.out⟩
              ·
               rw [if_neg c80] at H
               have c80b0 : ((bt a0 t241) == 40) = false := beq_eq_false_iff_ne.mpr c80
               have c80b1 : ((bt a0 t241) != 40) = true := bne_iff_ne.mpr c80
               simp only [Option.some.injEq, Prod.mk.injEq] at H
               obtain ⟨rfl, rfl, rfl, rfl, rfl⟩ := H
               go_wp2_with (first | ((with_reducible refine gate_callee (f := 34) rfl ?_); refine goesL_ (some 89) rfl rfl Tryd.func34 (by kernel_rfl) rfl #[.int .u8 (bt a0 0)] rfl mapK ?_; (with_reducible refine (impl_isLetter.calls (bt a0 0) true _ A54.out).mono ?_); rintro e w' ⟨rfl, ⟨nd, rfl⟩⟩; refine ⟨_, rfl, ?_⟩; (try (rw [drewN_self wc]; generalize hq_ : World.drewN wc _ = wc; have n0_ : Aside0 (wc.heap[gb225]? = some (.cells #[.int .i64 a1_0, .string a1_1, .int .i64 a1_2, .int .i64 a1_3] 30 (0, 0))) := ⟨by rw [← hq_]; exact (carB BK225.out)⟩; have n1_ : Aside0 (wc.heap[gb226]? = some (.cells #[.int .i64 0, .string (⟨#[]⟩ : ByteArray), .int .i64 0, .int .i64 0] 30 (0, 0))) := ⟨by rw [← hq_]; exact (carB BK226.out)⟩; have n2_ : Aside0 (Below w.heap.size w wc) := ⟨by rw [← hq_]; exact (carH HB.out)⟩; clear BK225 BK226 HB hq_; have BK225 := n0_; have BK226 := n1_; have HB := n2_; clear n0_ n1_ n2_))) | ((with_reducible refine gate_callee (f := 19) rfl ?_); refine goesL_ (some 91) rfl rfl Tryd.func19 (by kernel_rfl) rfl #[.string a0, .int .i64 0, (.func (.func 35) #[] #[])] rfl mapK ?_; (with_reducible refine (impl_run_isNamed.calls kj41 a0 0  t241 _ A56.out).mono ?_); rintro e w' ⟨rfl, ⟨nd, rfl⟩⟩; refine ⟨_, rfl, ?_⟩; (try (rw [drewN_self wc]; generalize hq_ : World.drewN wc _ = wc; have n0_ : Aside0 (wc.heap[gb225]? = some (.cells #[.int .i64 a1_0, .string a1_1, .int .i64 a1_2, .int .i64 a1_3] 30 (0, 0))) := ⟨by rw [← hq_]; exact (carB BK225.out)⟩; have n1_ : Aside0 (wc.heap[gb226]? = some (.cells #[.int .i64 0, .string (⟨#[]⟩ : ByteArray), .int .i64 0, .int .i64 0] 30 (0, 0))) := ⟨by rw [← hq_]; exact (carB BK226.out)⟩; have n2_ : Aside0 (Below w.heap.size w wc) := ⟨by rw [← hq_]; exact (carH HB.out)⟩; clear BK225 BK226 HB hq_; have BK225 := n0_; have BK226 := n1_; have HB := n2_; clear n0_ n1_ n2_))) | ((with_reducible refine gate_dst (N := 15) rfl ?_); refine box_event ?hg (N := 15) ?hd (cs := #[.int .i64 0, .string (⟨#[]⟩ : ByteArray), .int .i64 0, .int .i64 0]) (t := 30) ?hr ?_; (case hd => rfl); (case hg => rfl); (case hr => first | (go_simp; done) | (go_simp; rfl)); intro gb242 hg w89 hbox hb; have n0_ := Aside0.mk (blk_below (g := gb225) (o := .cells #[.int .i64 a1_0, .string a1_1, .int .i64 a1_2, .int .i64 a1_3] 30 (0, 0)) (carB BK225.out) hb); have n1_ := Aside0.mk (blk_below (g := gb226) (o := .cells #[.int .i64 0, .string (⟨#[]⟩ : ByteArray), .int .i64 0, .int .i64 0] 30 (0, 0)) (carB BK226.out) hb); have n2_ := Aside0.mk (below_step (carH HB.out) hb); have n3_ := Aside0.mk (hbox); have n4_ := Aside0.mk ((by rw [hg]; exact (below_size (carH HB.out)) : w.heap.size ≤ gb242)); have n5_ := Aside0.mk ((by rw [hg]; exact (below_size (carH HB.out)) : w.heap.size ≤ gb242)); have n6_ := Aside0.mk ((by rw [hg]; exact Nat.ne_of_lt (blk_lt (g := gb225) (o := .cells #[.int .i64 a1_0, .string a1_1, .int .i64 a1_2, .int .i64 a1_3] 30 (0, 0)) (carB BK225.out)) : gb225 ≠ gb242)); have n7_ := Aside0.mk ((by rw [hg]; exact Nat.ne_of_gt (blk_lt (g := gb225) (o := .cells #[.int .i64 a1_0, .string a1_1, .int .i64 a1_2, .int .i64 a1_3] 30 (0, 0)) (carB BK225.out)) : gb242 ≠ gb225)); have n8_ := Aside0.mk ((by rw [hg]; exact Nat.ne_of_lt (blk_lt (g := gb226) (o := .cells #[.int .i64 0, .string (⟨#[]⟩ : ByteArray), .int .i64 0, .int .i64 0] 30 (0, 0)) (carB BK226.out)) : gb226 ≠ gb242)); have n9_ := Aside0.mk ((by rw [hg]; exact Nat.ne_of_gt (blk_lt (g := gb226) (o := .cells #[.int .i64 0, .string (⟨#[]⟩ : ByteArray), .int .i64 0, .int .i64 0] 30 (0, 0)) (carB BK226.out)) : gb242 ≠ gb226)); clear BK225; clear BK226; clear HB; have BK225 := n0_; have BK226 := n1_; have HB := n2_; have BK242 := n3_; have GW242 := n4_; have GE242 := n5_; have NB225_242 := n6_; have NB242_225 := n7_; have NB226_242 := n8_; have NB242_226 := n9_; clear n0_ n1_ n2_ n3_ n4_ n5_ n6_ n7_ n8_ n9_; clear hb hbox hg; have hnb90 := NB242_225.out; have hnc90 := NB225_242.out; have hnb91 := NB242_226.out; have hnc91 := NB226_242.out; have hcz92_0 : w89.cell? ⟨gb242, 0, none⟩ = some (.int .i64 0) := (blk_cell BK242.out 0).trans rfl; have hcz92_1 : w89.cell? ⟨gb242, 1, none⟩ = some (.string (⟨#[]⟩ : ByteArray)) := (blk_cell BK242.out 1).trans rfl; have hcz92_2 : w89.cell? ⟨gb242, 2, none⟩ = some (.int .i64 0) := (blk_cell BK242.out 2).trans rfl; have hcz92_3 : w89.cell? ⟨gb242, 3, none⟩ = some (.int .i64 0) := (blk_cell BK242.out 3).trans rfl; have hfz92_0 := blk_frozen BK242.out 0; have hfz92_1 := blk_frozen BK242.out 1; have hfz92_2 := blk_frozen BK242.out 2; have hfz92_3 := blk_frozen BK242.out 3) | ((with_reducible refine gate_callee (f := 36) rfl ?_); refine goesL_ (some 104) rfl rfl Tryd.func36 (by kernel_rfl) rfl #[.string (a0.extract 0 ((ji57) : Int).toNat)] rfl (by (try simp only [List.map_toArray, List.map_cons, List.map_nil]); first | done | (simp only [hji57]; rfl) | rfl | (simp only [List.length_drop, List.length_take]; rfl)) ?_; (with_reducible refine (impl_IsWord.calls kj41 (a0.extract 0 ((ji57) : Int).toNat) false _ A67.out).mono ?_); rintro e w93 ⟨rfl, hb⟩; refine ⟨_, rfl, ?_⟩; have n0_ := Aside0.mk (blk_below (g := gb225) (o := .cells #[.int .i64 a1_0, .string a1_1, .int .i64 a1_2, .int .i64 a1_3] 30 (0, 0)) (carF BK225.out NB225_242.out) hb); have n1_ := Aside0.mk (blk_below (g := gb226) (o := .cells #[.int .i64 0, .string (⟨#[]⟩ : ByteArray), .int .i64 0, .int .i64 0] 30 (0, 0)) (carF BK226.out NB226_242.out) hb); have n2_ := Aside0.mk (blk_below (g := gb242) (o := .cells #[.int .i64 4, .string (a0.extract 0 ((ji57) : Int).toNat), .int .i64 0, .int .i64 0] 30 (0, 0)) (carP BK242.out) hb); have n3_ := Aside0.mk (below_step (carH HB.out) hb); clear BK225; clear BK226; clear BK242; clear HB; have BK225 := n0_; have BK226 := n1_; have BK242 := n2_; have HB := n3_; clear n0_ n1_ n2_ n3_; (try clear hb); (try clear hb2); (try clear hk); (try clear hi); have p79 : 0 ≤ (t241 : Int) := dA; have q79 : t241 < (a0.size : Int) := dA; have hx79 := bt_at a0 t241; replace p79 := eq_true p79; replace q79 := eq_true q79; have hcz94_0 : w93.cell? ⟨gb242, 0, none⟩ = some (.int .i64 4) := (blk_cell BK242.out 0).trans rfl; have hcz94_1 : w93.cell? ⟨gb242, 1, none⟩ = some (.string (a0.extract 0 ((ji57) : Int).toNat)) := (blk_cell BK242.out 1).trans rfl; have hcz94_2 : w93.cell? ⟨gb242, 2, none⟩ = some (.int .i64 0) := (blk_cell BK242.out 2).trans rfl; have hcz94_3 : w93.cell? ⟨gb242, 3, none⟩ = some (.int .i64 0) := (blk_cell BK242.out 3).trans rfl; have hfz94_0 := blk_frozen BK242.out 0; have hfz94_1 := blk_frozen BK242.out 1; have hfz94_2 := blk_frozen BK242.out 2; have hfz94_3 := blk_frozen BK242.out 3; have hnb95 := NB226_225.out; have hnc95 := NB225_226.out; have hcz96_0 : w93.cell? ⟨gb226, 0, none⟩ = some (.int .i64 0) := (blk_cell BK226.out 0).trans rfl; have hcz96_1 : w93.cell? ⟨gb226, 1, none⟩ = some (.string (⟨#[]⟩ : ByteArray)) := (blk_cell BK226.out 1).trans rfl; have hcz96_2 : w93.cell? ⟨gb226, 2, none⟩ = some (.int .i64 0) := (blk_cell BK226.out 2).trans rfl; have hcz96_3 : w93.cell? ⟨gb226, 3, none⟩ = some (.int .i64 0) := (blk_cell BK226.out 3).trans rfl; have hfz96_0 := blk_frozen BK226.out 0; have hfz96_1 := blk_frozen BK226.out 1; have hfz96_2 := blk_frozen BK226.out 2; have hfz96_3 := blk_frozen BK226.out 3))
               refine bodyPost_ret (results_ct rfl _ _ gb226 30 #[.int .i64 4, .string (a0.extract 0 ((ji57) : Int).toNat), .int .i64 0, .int .i64 0] (0, 0) _ rfl (carP BK226.out) Tryd.underlying30 rfl (by kernel_rfl)) rfl ?_
               exact ⟨by first | rfl | (simp [errW_none, errW_some] <;> rfl) | (simp only [← hji57]; first | rfl | (simp [errW_none, errW_some] <;> rfl)) | (simp [*, errW_none, errW_some] <;> rfl) | (simp only [xne_nil, xeq_nil]; first | rfl | (simp [errW_none, errW_some] <;> rfl)), carH HB.out⟩
             ·
              rw [if_neg c78] at H
              exact absurd H (by simp)
            ·
             rw [if_neg c77] at H
             have c77b0 : decide (t241 < (a0.size : Int)) = false := decide_eq_false c77
             clear c77
             simp only [Option.some.injEq, Prod.mk.injEq] at H
             obtain ⟨rfl, rfl, rfl, rfl, rfl⟩ := H
             go_wp2_with (first | ((with_reducible refine gate_callee (f := 34) rfl ?_); refine goesL_ (some 89) rfl rfl Tryd.func34 (by kernel_rfl) rfl #[.int .u8 (bt a0 0)] rfl mapK ?_; (with_reducible refine (impl_isLetter.calls (bt a0 0) true _ A54.out).mono ?_); rintro e w' ⟨rfl, ⟨nd, rfl⟩⟩; refine ⟨_, rfl, ?_⟩; (try (rw [drewN_self wc]; generalize hq_ : World.drewN wc _ = wc; have n0_ : Aside0 (wc.heap[gb225]? = some (.cells #[.int .i64 a1_0, .string a1_1, .int .i64 a1_2, .int .i64 a1_3] 30 (0, 0))) := ⟨by rw [← hq_]; exact (carB BK225.out)⟩; have n1_ : Aside0 (wc.heap[gb226]? = some (.cells #[.int .i64 0, .string (⟨#[]⟩ : ByteArray), .int .i64 0, .int .i64 0] 30 (0, 0))) := ⟨by rw [← hq_]; exact (carB BK226.out)⟩; have n2_ : Aside0 (Below w.heap.size w wc) := ⟨by rw [← hq_]; exact (carH HB.out)⟩; clear BK225 BK226 HB hq_; have BK225 := n0_; have BK226 := n1_; have HB := n2_; clear n0_ n1_ n2_))) | ((with_reducible refine gate_callee (f := 19) rfl ?_); refine goesL_ (some 91) rfl rfl Tryd.func19 (by kernel_rfl) rfl #[.string a0, .int .i64 0, (.func (.func 35) #[] #[])] rfl mapK ?_; (with_reducible refine (impl_run_isNamed.calls kj41 a0 0  t241 _ A56.out).mono ?_); rintro e w' ⟨rfl, ⟨nd, rfl⟩⟩; refine ⟨_, rfl, ?_⟩; (try (rw [drewN_self wc]; generalize hq_ : World.drewN wc _ = wc; have n0_ : Aside0 (wc.heap[gb225]? = some (.cells #[.int .i64 a1_0, .string a1_1, .int .i64 a1_2, .int .i64 a1_3] 30 (0, 0))) := ⟨by rw [← hq_]; exact (carB BK225.out)⟩; have n1_ : Aside0 (wc.heap[gb226]? = some (.cells #[.int .i64 0, .string (⟨#[]⟩ : ByteArray), .int .i64 0, .int .i64 0] 30 (0, 0))) := ⟨by rw [← hq_]; exact (carB BK226.out)⟩; have n2_ : Aside0 (Below w.heap.size w wc) := ⟨by rw [← hq_]; exact (carH HB.out)⟩; clear BK225 BK226 HB hq_; have BK225 := n0_; have BK226 := n1_; have HB := n2_; clear n0_ n1_ n2_))) | ((with_reducible refine gate_dst (N := 15) rfl ?_); refine box_event ?hg (N := 15) ?hd (cs := #[.int .i64 0, .string (⟨#[]⟩ : ByteArray), .int .i64 0, .int .i64 0]) (t := 30) ?hr ?_; (case hd => rfl); (case hg => rfl); (case hr => first | (go_simp; done) | (go_simp; rfl)); intro gb242 hg w97 hbox hb; have n0_ := Aside0.mk (blk_below (g := gb225) (o := .cells #[.int .i64 a1_0, .string a1_1, .int .i64 a1_2, .int .i64 a1_3] 30 (0, 0)) (carB BK225.out) hb); have n1_ := Aside0.mk (blk_below (g := gb226) (o := .cells #[.int .i64 0, .string (⟨#[]⟩ : ByteArray), .int .i64 0, .int .i64 0] 30 (0, 0)) (carB BK226.out) hb); have n2_ := Aside0.mk (below_step (carH HB.out) hb); have n3_ := Aside0.mk (hbox); have n4_ := Aside0.mk ((by rw [hg]; exact (below_size (carH HB.out)) : w.heap.size ≤ gb242)); have n5_ := Aside0.mk ((by rw [hg]; exact (below_size (carH HB.out)) : w.heap.size ≤ gb242)); have n6_ := Aside0.mk ((by rw [hg]; exact Nat.ne_of_lt (blk_lt (g := gb225) (o := .cells #[.int .i64 a1_0, .string a1_1, .int .i64 a1_2, .int .i64 a1_3] 30 (0, 0)) (carB BK225.out)) : gb225 ≠ gb242)); have n7_ := Aside0.mk ((by rw [hg]; exact Nat.ne_of_gt (blk_lt (g := gb225) (o := .cells #[.int .i64 a1_0, .string a1_1, .int .i64 a1_2, .int .i64 a1_3] 30 (0, 0)) (carB BK225.out)) : gb242 ≠ gb225)); have n8_ := Aside0.mk ((by rw [hg]; exact Nat.ne_of_lt (blk_lt (g := gb226) (o := .cells #[.int .i64 0, .string (⟨#[]⟩ : ByteArray), .int .i64 0, .int .i64 0] 30 (0, 0)) (carB BK226.out)) : gb226 ≠ gb242)); have n9_ := Aside0.mk ((by rw [hg]; exact Nat.ne_of_gt (blk_lt (g := gb226) (o := .cells #[.int .i64 0, .string (⟨#[]⟩ : ByteArray), .int .i64 0, .int .i64 0] 30 (0, 0)) (carB BK226.out)) : gb242 ≠ gb226)); clear BK225; clear BK226; clear HB; have BK225 := n0_; have BK226 := n1_; have HB := n2_; have BK242 := n3_; have GW242 := n4_; have GE242 := n5_; have NB225_242 := n6_; have NB242_225 := n7_; have NB226_242 := n8_; have NB242_226 := n9_; clear n0_ n1_ n2_ n3_ n4_ n5_ n6_ n7_ n8_ n9_; clear hb hbox hg; have hnb98 := NB242_225.out; have hnc98 := NB225_242.out; have hnb99 := NB242_226.out; have hnc99 := NB226_242.out; have hcz100_0 : w97.cell? ⟨gb242, 0, none⟩ = some (.int .i64 0) := (blk_cell BK242.out 0).trans rfl; have hcz100_1 : w97.cell? ⟨gb242, 1, none⟩ = some (.string (⟨#[]⟩ : ByteArray)) := (blk_cell BK242.out 1).trans rfl; have hcz100_2 : w97.cell? ⟨gb242, 2, none⟩ = some (.int .i64 0) := (blk_cell BK242.out 2).trans rfl; have hcz100_3 : w97.cell? ⟨gb242, 3, none⟩ = some (.int .i64 0) := (blk_cell BK242.out 3).trans rfl; have hfz100_0 := blk_frozen BK242.out 0; have hfz100_1 := blk_frozen BK242.out 1; have hfz100_2 := blk_frozen BK242.out 2; have hfz100_3 := blk_frozen BK242.out 3) | ((with_reducible refine gate_callee (f := 36) rfl ?_); refine goesL_ (some 104) rfl rfl Tryd.func36 (by kernel_rfl) rfl #[.string (a0.extract 0 ((ji57) : Int).toNat)] rfl (by (try simp only [List.map_toArray, List.map_cons, List.map_nil]); first | done | (simp only [hji57]; rfl) | rfl | (simp only [List.length_drop, List.length_take]; rfl)) ?_; (with_reducible refine (impl_IsWord.calls kj41 (a0.extract 0 ((ji57) : Int).toNat) false _ A67.out).mono ?_); rintro e w101 ⟨rfl, hb⟩; refine ⟨_, rfl, ?_⟩; have n0_ := Aside0.mk (blk_below (g := gb225) (o := .cells #[.int .i64 a1_0, .string a1_1, .int .i64 a1_2, .int .i64 a1_3] 30 (0, 0)) (carF BK225.out NB225_242.out) hb); have n1_ := Aside0.mk (blk_below (g := gb226) (o := .cells #[.int .i64 0, .string (⟨#[]⟩ : ByteArray), .int .i64 0, .int .i64 0] 30 (0, 0)) (carF BK226.out NB226_242.out) hb); have n2_ := Aside0.mk (blk_below (g := gb242) (o := .cells #[.int .i64 4, .string (a0.extract 0 ((ji57) : Int).toNat), .int .i64 0, .int .i64 0] 30 (0, 0)) (carP BK242.out) hb); have n3_ := Aside0.mk (below_step (carH HB.out) hb); clear BK225; clear BK226; clear BK242; clear HB; have BK225 := n0_; have BK226 := n1_; have BK242 := n2_; have HB := n3_; clear n0_ n1_ n2_ n3_; (try clear hb); (try clear hb2); (try clear hk); (try clear hi); have hcz102_0 : w101.cell? ⟨gb242, 0, none⟩ = some (.int .i64 4) := (blk_cell BK242.out 0).trans rfl; have hcz102_1 : w101.cell? ⟨gb242, 1, none⟩ = some (.string (a0.extract 0 ((ji57) : Int).toNat)) := (blk_cell BK242.out 1).trans rfl; have hcz102_2 : w101.cell? ⟨gb242, 2, none⟩ = some (.int .i64 0) := (blk_cell BK242.out 2).trans rfl; have hcz102_3 : w101.cell? ⟨gb242, 3, none⟩ = some (.int .i64 0) := (blk_cell BK242.out 3).trans rfl; have hfz102_0 := blk_frozen BK242.out 0; have hfz102_1 := blk_frozen BK242.out 1; have hfz102_2 := blk_frozen BK242.out 2; have hfz102_3 := blk_frozen BK242.out 3; have hnb103 := NB226_225.out; have hnc103 := NB225_226.out; have hcz104_0 : w101.cell? ⟨gb226, 0, none⟩ = some (.int .i64 0) := (blk_cell BK226.out 0).trans rfl; have hcz104_1 : w101.cell? ⟨gb226, 1, none⟩ = some (.string (⟨#[]⟩ : ByteArray)) := (blk_cell BK226.out 1).trans rfl; have hcz104_2 : w101.cell? ⟨gb226, 2, none⟩ = some (.int .i64 0) := (blk_cell BK226.out 2).trans rfl; have hcz104_3 : w101.cell? ⟨gb226, 3, none⟩ = some (.int .i64 0) := (blk_cell BK226.out 3).trans rfl; have hfz104_0 := blk_frozen BK226.out 0; have hfz104_1 := blk_frozen BK226.out 1; have hfz104_2 := blk_frozen BK226.out 2; have hfz104_3 := blk_frozen BK226.out 3))
             refine bodyPost_ret (results_ct rfl _ _ gb226 30 #[.int .i64 4, .string (a0.extract 0 ((ji57) : Int).toNat), .int .i64 0, .int .i64 0] (0, 0) _ rfl (carP BK226.out) Tryd.underlying30 rfl (by kernel_rfl)) rfl ?_
             exact ⟨by first | rfl | (simp [errW_none, errW_some] <;> rfl) | (simp only [← hji57]; first | rfl | (simp [errW_none, errW_some] <;> rfl)) | (simp [*, errW_none, errW_some] <;> rfl) | (simp only [xne_nil, xeq_nil]; first | rfl | (simp [errW_none, errW_some] <;> rfl)), carH HB.out⟩
         ·
          rw [if_neg c59] at H
          exact absurd H (by simp)
        ·
         rw [if_neg c58] at H
         exact absurd H (by simp)
       ·
        replace c55 := Bool.eq_false_iff.mpr c55
        subst c55
        have H1 : ((strings_Split.f (⟨#[38, 38, 32, 124, 124, 32, 61, 61, 32, 33, 61, 32, 33, 126, 32, 60, 61, 32, 43, 61, 32, 123, 32, 125, 32, 40, 32, 41, 32, 91, 32, 93, 32, 59, 32, 44, 32, 61, 32, 33, 32, 60, 32, 43, 32, 45, 32, 42, 32, 47, 32, 37, 32, 126, 32, 63, 32, 58, 32, 36]⟩ : ByteArray) (⟨#[32]⟩ : ByteArray)).bind fun t244 => (impl_lexOne.l0 kj41 a0 t244 (t244.length : Int) 0)) = some (r1, r2, r3, r4, r5) := by rw [if_neg (show ¬ (false = true) by decide)] at H; exact H
        clear H
        have H := H1
        clear H1
        replace H := Option.bind_eq_some_iff.mp H
        obtain ⟨t244, A1050, H⟩ := H
        replace H : (impl_lexOne.l0 kj41 a0 t244 (t244.length : Int) 0) = some (r1, r2, r3, r4, r5) := H
        have A105 := Aside0.mk A1050
        clear A1050
        have H' := Aside0.mk H
        clear H
        go_wp2_with (first | ((with_reducible refine gate_callee (f := 34) rfl ?_); refine goesL_ (some 89) rfl rfl Tryd.func34 (by kernel_rfl) rfl #[.int .u8 (bt a0 0)] rfl mapK ?_; (with_reducible refine (impl_isLetter.calls (bt a0 0) false _ A54.out).mono ?_); rintro e w' ⟨rfl, ⟨nd, rfl⟩⟩; refine ⟨_, rfl, ?_⟩) | ((with_reducible refine gate_callee (f := 37) rfl ?_); refine goesL_ (some 120) rfl rfl Tryd.func37 (by kernel_rfl) rfl #[.string (⟨#[38, 38, 32, 124, 124, 32, 61, 61, 32, 33, 61, 32, 33, 126, 32, 60, 61, 32, 43, 61, 32, 123, 32, 125, 32, 40, 32, 41, 32, 91, 32, 93, 32, 59, 32, 44, 32, 61, 32, 33, 32, 60, 32, 43, 32, 45, 32, 42, 32, 47, 32, 37, 32, 126, 32, 63, 32, 58, 32, 36]⟩ : ByteArray), .string (⟨#[32]⟩ : ByteArray)] rfl mapK ?_; (with_reducible refine (strings_Split.calls (⟨#[38, 38, 32, 124, 124, 32, 61, 61, 32, 33, 61, 32, 33, 126, 32, 60, 61, 32, 43, 61, 32, 123, 32, 125, 32, 40, 32, 41, 32, 91, 32, 93, 32, 59, 32, 44, 32, 61, 32, 33, 32, 60, 32, 43, 32, 45, 32, 42, 32, 47, 32, 37, 32, 126, 32, 63, 32, 58, 32, 36]⟩ : ByteArray) (⟨#[32]⟩ : ByteArray) t244 _ ?side1 A105.out).mono ?_); (case side1 => first | exact hL | ((repeat (first | exact hL | apply LaidW.drewN | apply LaidW.drew | apply LaidW.alloc)); done) | exact LaidW.below hL (carH HB.out)); rintro e w106 ⟨v245, rfl, ho0, hb⟩; refine ⟨_, rfl, ?_⟩; have n0_ := Aside0.mk (Kd.R_lower ho0 (below_size (carH HB.out))); have n1_ := Aside0.mk (blk_below (g := gb225) (o := .cells #[.int .i64 a1_0, .string a1_1, .int .i64 a1_2, .int .i64 a1_3] 30 (0, 0)) (carB BK225.out) hb); have n2_ := Aside0.mk (blk_below (g := gb226) (o := .cells #[.int .i64 0, .string (⟨#[]⟩ : ByteArray), .int .i64 0, .int .i64 0] 30 (0, 0)) (carB BK226.out) hb); have n3_ := Aside0.mk (below_step (carH HB.out) hb); clear BK225; clear BK226; clear HB; have HO246 := n0_; have BK225 := n1_; have BK226 := n2_; have HB := n3_; clear n0_ n1_ n2_ n3_; (try clear hb); (try clear hb2); (try clear hk); (try clear hi); (try clear ho0); obtain ⟨Ao107, co107, eo107⟩ := Kd.R_slice HO246.out; subst eo107))
        go_loopg [122] kj41 (fun kq v122 w' => ∃ (x122_2 : Int) (x227000_2 : Int) (x227001_2 : ByteArray) (x227002_2 : Int) (x227003_2 : Int), v122 = .int .i64 x122_2 ∧ Aside0 (impl_lexOne.l0 kq a0 t244 (t244.length : Int) x122_2 = some (r1, r2, r3, r4, r5)) ∧ Aside0 (kq ≤ kj41) ∧ Aside0 (Kd.R Kd.string 9 w' w.heap.size (fun _ => True) (.slice Ao107 t244.length co107) t244) ∧ Aside0 (w'.heap[gb225]? = some (.cells #[.int .i64 a1_0, .string a1_1, .int .i64 a1_2, .int .i64 a1_3] 30 (0, 0))) ∧ Aside0 (w'.heap[gb226]? = some (.cells #[.int .i64 x227000_2, .string x227001_2, .int .i64 x227002_2, .int .i64 x227003_2] 30 (0, 0))) ∧ Aside0 (Below w.heap.size w w'))
        case atStart => exact ⟨(0), (0), ((⟨#[]⟩ : ByteArray)), (0), (0), argK, H', ⟨Nat.le_refl _⟩, ⟨carR HO246.out⟩, ⟨by (with_reducible repeat (first | refine blk_drewN ?_ _ | refine blk_drew ?_ | refine blk_alloc ?_ _)); exact BK225.out⟩, ⟨by (with_reducible repeat (first | refine blk_drewN ?_ _ | refine blk_drew ?_ | refine blk_alloc ?_ _)); exact BK226.out⟩, ⟨carH HB.out⟩⟩
        case round =>
         clear H'
         try clear c1
         try clear p1
         try clear q1
         try clear hx1
         try clear c2
         try clear p2
         try clear c3
         try clear c3b0
         try clear c3b1
         try clear c4
         try clear p4
         try clear q4
         try clear hx4
         try clear qi4
         try clear c5
         try clear c6
         try clear p6
         try clear c7
         try clear p7
         try clear q7
         try clear hx7
         try clear c8
         try clear c9
         try clear c10
         try clear c11
         try clear c11b0
         try clear c12
         try clear c12b0
         try clear c13
         try clear c13b0
         try clear p14
         try clear q14
         try clear hx14
         try clear c15
         try clear c15b0
         try clear c15b1
         try clear c17
         try clear c17b0
         try clear p18
         try clear q18
         try clear hx18
         try clear c20
         try clear c21
         try clear c23
         try clear c23b0
         try clear c23b1
         try clear c24
         try clear c24b0
         try clear c24b1
         try clear c27
         try clear c29
         try clear c29b0
         try clear c29b1
         try clear c30
         try clear c30b0
         try clear c30b1
         try clear c31
         try clear c33
         try clear c34
         try clear c35
         try clear c35b0
         try clear c35b1
         try clear c36
         try clear c37
         try clear c40
         try clear c45
         try clear c45b0
         try clear c45b1
         try clear c47
         try clear c50
         try clear c52
         try clear c55
         try clear c58
         try clear c58b0
         try clear c58b1
         try clear c59
         try clear c59b0
         try clear c59b1
         try clear c60
         try clear c60b0
         try clear c62
         try clear c63
         try clear p64
         try clear c65
         try clear c68
         try clear c70
         try clear c71
         try clear c75
         try clear c77
         try clear c77b0
         try clear c78
         try clear c78b0
         try clear p79
         try clear q79
         try clear hx79
         try clear c80
         try clear c80b0
         try clear c80b1
         try clear c82
         try clear c83
         try clear c87
         try clear c90
         try clear c91
         try clear c95
         try clear c98
         try clear c99
         try clear c103
         try clear hcz100_0
         try clear hcz100_1
         try clear hcz100_2
         try clear hcz100_3
         try clear hcz102_0
         try clear hcz102_1
         try clear hcz102_2
         try clear hcz102_3
         try clear hcz104_0
         try clear hcz104_1
         try clear hcz104_2
         try clear hcz104_3
         try clear hcz28_0
         try clear hcz28_1
         try clear hcz28_2
         try clear hcz28_3
         try clear hcz34_0
         try clear hcz34_1
         try clear hcz34_2
         try clear hcz34_3
         try clear hcz41_0
         try clear hcz41_1
         try clear hcz41_2
         try clear hcz41_3
         try clear hcz48_0
         try clear hcz48_1
         try clear hcz48_2
         try clear hcz48_3
         try clear hcz53_0
         try clear hcz53_1
         try clear hcz53_2
         try clear hcz53_3
         try clear hcz64_0
         try clear hcz64_1
         try clear hcz64_2
         try clear hcz64_3
         try clear hcz66_0
         try clear hcz66_1
         try clear hcz66_2
         try clear hcz66_3
         try clear hcz72_0
         try clear hcz72_1
         try clear hcz72_2
         try clear hcz72_3
         try clear hcz74_0
         try clear hcz74_1
         try clear hcz74_2
         try clear hcz74_3
         try clear hcz76_0
         try clear hcz76_1
         try clear hcz76_2
         try clear hcz76_3
         try clear hcz84_0
         try clear hcz84_1
         try clear hcz84_2
         try clear hcz84_3
         try clear hcz86_0
         try clear hcz86_1
         try clear hcz86_2
         try clear hcz86_3
         try clear hcz88_0
         try clear hcz88_1
         try clear hcz88_2
         try clear hcz88_3
         try clear hcz92_0
         try clear hcz92_1
         try clear hcz92_2
         try clear hcz92_3
         try clear hcz94_0
         try clear hcz94_1
         try clear hcz94_2
         try clear hcz94_3
         try clear hcz96_0
         try clear hcz96_1
         try clear hcz96_2
         try clear hcz96_3
         try clear hfz100_0
         try clear hfz100_1
         try clear hfz100_2
         try clear hfz100_3
         try clear hfz102_0
         try clear hfz102_1
         try clear hfz102_2
         try clear hfz102_3
         try clear hfz104_0
         try clear hfz104_1
         try clear hfz104_2
         try clear hfz104_3
         try clear hfz28_0
         try clear hfz28_1
         try clear hfz28_2
         try clear hfz28_3
         try clear hfz34_0
         try clear hfz34_1
         try clear hfz34_2
         try clear hfz34_3
         try clear hfz41_0
         try clear hfz41_1
         try clear hfz41_2
         try clear hfz41_3
         try clear hfz48_0
         try clear hfz48_1
         try clear hfz48_2
         try clear hfz48_3
         try clear hfz53_0
         try clear hfz53_1
         try clear hfz53_2
         try clear hfz53_3
         try clear hfz64_0
         try clear hfz64_1
         try clear hfz64_2
         try clear hfz64_3
         try clear hfz66_0
         try clear hfz66_1
         try clear hfz66_2
         try clear hfz66_3
         try clear hfz72_0
         try clear hfz72_1
         try clear hfz72_2
         try clear hfz72_3
         try clear hfz74_0
         try clear hfz74_1
         try clear hfz74_2
         try clear hfz74_3
         try clear hfz76_0
         try clear hfz76_1
         try clear hfz76_2
         try clear hfz76_3
         try clear hfz84_0
         try clear hfz84_1
         try clear hfz84_2
         try clear hfz84_3
         try clear hfz86_0
         try clear hfz86_1
         try clear hfz86_2
         try clear hfz86_3
         try clear hfz88_0
         try clear hfz88_1
         try clear hfz88_2
         try clear hfz88_3
         try clear hfz92_0
         try clear hfz92_1
         try clear hfz92_2
         try clear hfz92_3
         try clear hfz94_0
         try clear hfz94_1
         try clear hfz94_2
         try clear hfz94_3
         try clear hfz96_0
         try clear hfz96_1
         try clear hfz96_2
         try clear hfz96_3
         try clear p1
         try clear p14
         try clear p18
         try clear p2
         try clear p4
         try clear p6
         try clear p79
         try clear q1
         try clear q14
         try clear q18
         try clear q4
         try clear q79
         obtain ⟨x122_2, x227000_2, x227001_2, x227002_2, x227003_2, rfl, HA, HK2, HO_120, BK225, BK226, HB⟩ := hrel
         cases gk with
         | zero => exact absurd HA.out (by simp [impl_lexOne.l0])
         | succ k2 =>
          have H := HA.out
          clear HA
          simp only [impl_lexOne.l0] at H
          by_cases c108 : x122_2 < (t244.length : Int)
          ·
           rw [if_pos c108] at H
           have c108b0 : decide (x122_2 < (t244.length : Int)) = true := decide_eq_true c108
           clear c108
           by_cases c109 : 0 ≤ x122_2
           ·
            rw [if_pos c109] at H
            have c109b0 : decide (0 ≤ x122_2) = true := decide_eq_true c109
            clear c109
            by_cases c110 : x122_2 < (t244.length : Int)
            ·
             rw [if_pos c110] at H
             have c110b0 : decide (x122_2 < (t244.length : Int)) = true := decide_eq_true c110
             clear c110
             replace H := Option.bind_eq_some_iff.mp H
             obtain ⟨t248, A1110, H⟩ := H
             replace H : (if t248 = true then (some (7, rdOf ByteArray.empty t244 x122_2, 0, 0, ((rdOf ByteArray.empty t244 x122_2).size : Int))) else (impl_lexOne.l0 k2 a0 t244 (t244.length : Int) (wrap64 (x122_2 + 1)))) = some (r1, r2, r3, r4, r5) := H
             have A111 := Aside0.mk A1110
             clear A1110
             by_cases c112 : t248 = true
             ·
              subst c112
              have H1 : (some (7, rdOf ByteArray.empty t244 x122_2, 0, 0, ((rdOf ByteArray.empty t244 x122_2).size : Int))) = some (r1, r2, r3, r4, r5) := by rw [if_pos rfl] at H; exact H
              clear H
              have H := H1
              clear H1
              simp only [Option.some.injEq, Prod.mk.injEq] at H
              obtain ⟨rfl, rfl, rfl, rfl, rfl⟩ := H
              have p247 : 0 ≤ (x122_2 : Int) := dA
              have q247 : x122_2 < (t244.length : Int) := dA
              obtain ⟨ad247, e247, hx247_0⟩ := Kd.at_string (Kd.R_reads' HO_120.out).2.2 x122_2 p247 q247
              cases e247
              replace p247 := eq_true p247
              replace q247 := eq_true q247
              go_wp2_with (first | ((with_reducible refine gate_callee (f := 38) rfl ?_); refine goesL_ (some 128) rfl rfl Tryd.func38 (by kernel_rfl) rfl #[.string a0, .string (rdOf ByteArray.empty t244 x122_2)] rfl mapK ?_; (with_reducible refine (strings_HasPrefix.calls a0 (rdOf ByteArray.empty t244 x122_2) true _ A111.out).mono ?_); rintro e w' ⟨rfl, ⟨nd, rfl⟩⟩; refine ⟨_, rfl, ?_⟩; (try (rw [drewN_self wr]; generalize hq_ : World.drewN wr _ = wr; have n0_ : Aside0 (Kd.R Kd.string 9 wr w.heap.size (fun _ => True) (.slice (some ad247) t244.length co107) t244) := ⟨by rw [← hq_]; exact (carR HO_120.out)⟩; have n1_ : Aside0 (wr.heap[gb225]? = some (.cells #[.int .i64 a1_0, .string a1_1, .int .i64 a1_2, .int .i64 a1_3] 30 (0, 0))) := ⟨by rw [← hq_]; exact (carB BK225.out)⟩; have n2_ : Aside0 (wr.heap[gb226]? = some (.cells #[.int .i64 x227000_2, .string x227001_2, .int .i64 x227002_2, .int .i64 x227003_2] 30 (0, 0))) := ⟨by rw [← hq_]; exact (carB BK226.out)⟩; have n3_ : Aside0 (Below w.heap.size w wr) := ⟨by rw [← hq_]; exact (carH HB.out)⟩; clear HO_120 BK225 BK226 HB hq_; have HO_120 := n0_; have BK225 := n1_; have BK226 := n2_; have HB := n3_; clear n0_ n1_ n2_ n3_)); have hnb113 := NB226_225.out; have hnc113 := NB225_226.out; have hcz114_0 : wr.cell? ⟨gb226, 0, none⟩ = some (.int .i64 x227000_2) := (blk_cell BK226.out 0).trans rfl; have hcz114_1 : wr.cell? ⟨gb226, 1, none⟩ = some (.string x227001_2) := (blk_cell BK226.out 1).trans rfl; have hcz114_2 : wr.cell? ⟨gb226, 2, none⟩ = some (.int .i64 x227002_2) := (blk_cell BK226.out 2).trans rfl; have hcz114_3 : wr.cell? ⟨gb226, 3, none⟩ = some (.int .i64 x227003_2) := (blk_cell BK226.out 3).trans rfl; have hfz114_0 := blk_frozen BK226.out 0; have hfz114_1 := blk_frozen BK226.out 1; have hfz114_2 := blk_frozen BK226.out 2; have hfz114_3 := blk_frozen BK226.out 3))
              refine bodyPost_ret (results_ct rfl _ _ gb226 30 #[.int .i64 7, .string (rdOf ByteArray.empty t244 x122_2), .int .i64 0, .int .i64 0] (0, 0) _ rfl (carP BK226.out) Tryd.underlying30 rfl (by kernel_rfl)) rfl ?_
              exact ⟨retK, carH HB.out⟩
             ·
              replace c112 := Bool.eq_false_iff.mpr c112
              subst c112
              have H1 : (impl_lexOne.l0 k2 a0 t244 (t244.length : Int) (wrap64 (x122_2 + 1))) = some (r1, r2, r3, r4, r5) := by rw [if_neg (show ¬ (false = true) by decide)] at H; exact H
              clear H
              have H := H1
              clear H1
              have H' := Aside0.mk H
              clear H
              have p247 : 0 ≤ (x122_2 : Int) := dA
              have q247 : x122_2 < (t244.length : Int) := dA
              obtain ⟨ad247, e247, hx247_0⟩ := Kd.at_string (Kd.R_reads' HO_120.out).2.2 x122_2 p247 q247
              cases e247
              replace p247 := eq_true p247
              replace q247 := eq_true q247
              go_wp2_with (first | ((with_reducible refine gate_callee (f := 38) rfl ?_); refine goesL_ (some 128) rfl rfl Tryd.func38 (by kernel_rfl) rfl #[.string a0, .string (rdOf ByteArray.empty t244 x122_2)] rfl mapK ?_; (with_reducible refine (strings_HasPrefix.calls a0 (rdOf ByteArray.empty t244 x122_2) false _ A111.out).mono ?_); rintro e w' ⟨rfl, ⟨nd, rfl⟩⟩; refine ⟨_, rfl, ?_⟩))
              go_roundg k2
              case measure => have := HJ41.out; have := HK2.out; omega
              case rel => exact ⟨(wrap64 (x122_2 + 1)), (x227000_2), (x227001_2), (x227002_2), (x227003_2), argK, H', ⟨by have := HJ41.out; have := HK2.out; omega⟩, ⟨carR HO_120.out⟩, ⟨by (with_reducible repeat (first | refine blk_drewN ?_ _ | refine blk_drew ?_ | refine blk_alloc ?_ _)); exact BK225.out⟩, ⟨by (with_reducible repeat (first | refine blk_drewN ?_ _ | refine blk_drew ?_ | refine blk_alloc ?_ _)); exact BK226.out⟩, ⟨carH HB.out⟩⟩
            ·
             rw [if_neg c110] at H
             exact absurd H (by simp)
           ·
            rw [if_neg c109] at H
            exact absurd H (by simp)
          ·
           rw [if_neg c108] at H
           have c108b0 : decide (x122_2 < (t244.length : Int)) = false := decide_eq_false c108
           clear c108
           simp only [Option.some.injEq, Prod.mk.injEq] at H
           obtain ⟨rfl, rfl, rfl, rfl, rfl⟩ := H
           have hnb115 := NB226_225.out
           have hnc115 := NB225_226.out
           have hcz116_0 : wr.cell? ⟨gb226, 0, none⟩ = some (.int .i64 x227000_2) := (blk_cell BK226.out 0).trans rfl
           have hcz116_1 : wr.cell? ⟨gb226, 1, none⟩ = some (.string x227001_2) := (blk_cell BK226.out 1).trans rfl
           have hcz116_2 : wr.cell? ⟨gb226, 2, none⟩ = some (.int .i64 x227002_2) := (blk_cell BK226.out 2).trans rfl
           have hcz116_3 : wr.cell? ⟨gb226, 3, none⟩ = some (.int .i64 x227003_2) := (blk_cell BK226.out 3).trans rfl
           have hfz116_0 := blk_frozen BK226.out 0
           have hfz116_1 := blk_frozen BK226.out 1
           have hfz116_2 := blk_frozen BK226.out 2
           have hfz116_3 := blk_frozen BK226.out 3
           go_wp2
           refine bodyPost_ret (results_ct rfl _ _ gb226 30 #[.int .i64 0, .string (⟨#[]⟩ : ByteArray), .int .i64 0, .int .i64 0] (0, 0) _ rfl (carP BK226.out) Tryd.underlying30 rfl (by kernel_rfl)) rfl ?_
           exact ⟨retK, carH HB.out⟩
 ·
  rw [if_neg c3] at H
  exact absurd H (by simp)

end Go.Proofs.YtmddcohelcciaacDoor.PFnExactLex
