/- Arith: the kinds of arithmetic over cells, in the program and in the reference. -/
import Derived.Test.YtlemhidllcbadaaXLem
import Derived.Test.YtlemhidllcbadaaPFnExactArithx
import Derived.Test.YtlemhidllcbadaaLFnExactArithReadDec
import Derived.Test.YtlemhidllcbadaaLFnExactArithLooksNum
import Derived.Test.YtlemhidllcbadaaLFnExactArithCell
import Derived.Test.YtlemhidllcbadaaLFnExactArithDecMul
namespace Go.Proofs.Ytlemhidllcbadaa.PFnExactArith
set_option linter.unusedVariables false
set_option linter.unusedSimpArgs false
open Go.RowKit Go.Proofs.YtlemhidllcbadaaW.PrintWords Go.Proofs.YtlemhidllcbadaaW.PrintLast Go.Proofs.YtlemhidllcbadaaW.PrintMore Go.Proofs.Ytlemhidllcbadaa.XL

def IsDec (x : Int) : Prop := -9000000000000 ≤ x ∧ x ≤ 9000000000000
theorem dec_yes {x : Int} (h : IsDec x) : decOkV x = true := by
  unfold decOkV; simp [h.1, h.2]
def mk (n : Int) : Int × Bool := if decOkV n = true then (n, true) else (0, false)
theorem spec_mk (n : Int) : spec_l1made.f n = some (mk n) := by
  unfold spec_l1made.f mk
  rw [spec_decOk]
  cases decOkV n <;> rfl
theorem impl_mk (n : Int) : impl_decOr.f n = some (mk n) := by
  unfold impl_decOr.f mk
  rw [impl_decOk]
  cases decOkV n <;> rfl
theorem impl_are {x y : Int} (hx : IsDec x) (hy : IsDec y) : impl_areDecs.f x y = some true := by
  unfold impl_areDecs.f
  rw [impl_decOk, impl_decOk, dec_yes hx, dec_yes hy]
  rfl
def opV (d x y : Int) : Int × Bool :=
  if d = 20 then mk (wrap64 (x + y)) else if d = 21 then mk (wrap64 (x - y)) else if d = 22 then mulV x y
  else if d = 23 then (if y = 0 then (0, false) else mk (wrap64 (Int.tdiv (wrap64 (x * 1000000)) y)))
  else (if y = 0 then (0, false) else (Int.tmod x y, true))
section
variable {x y : Int} (hx : IsDec x) (hy : IsDec y)
include hx hy
theorem spec_add : spec_DecAdd.f x y = some (opV 20 x y) := by
  unfold spec_DecAdd.f
  rw [spec_decOk, spec_decOk, dec_yes hx, dec_yes hy]
  simp only [Option.bind_some, if_true]
  rw [spec_mk]; rfl
theorem spec_sub : spec_DecSub.f x y = some (opV 21 x y) := by
  unfold spec_DecSub.f
  rw [spec_decOk, spec_decOk, dec_yes hx, dec_yes hy]
  simp only [Option.bind_some, if_true]
  rw [spec_mk]; rfl
theorem spec_div : spec_DecDiv.f x y = some (opV 23 x y) := by
  unfold spec_DecDiv.f
  rw [spec_decOk, spec_decOk, dec_yes hx, dec_yes hy]
  simp only [Option.bind_some, if_true]
  show _ = some (if y = 0 then (0, false) else mk (wrap64 (Int.tdiv (wrap64 (x * 1000000)) y)))
  by_cases h : y = 0
  · rw [if_pos h, if_pos h]
  · rw [if_neg h, if_neg h, spec_mk]; rfl
theorem spec_mod : spec_DecMod.f x y = some (opV 24 x y) := by
  unfold spec_DecMod.f
  rw [spec_decOk, spec_decOk, dec_yes hx, dec_yes hy]
  simp only [Option.bind_some, if_true]
  show _ = some (if y = 0 then (0, false) else (Int.tmod x y, true))
  by_cases h : y = 0
  · rw [if_pos h, if_pos h]
  · rw [if_neg h, if_neg h]
theorem impl_add : impl_DecAdd.f x y = some (opV 20 x y) := by
  unfold impl_DecAdd.f
  rw [impl_are hx hy, Option.bind_some, if_pos (rfl : true = true), impl_mk]; rfl
theorem impl_sub : impl_DecSub.f x y = some (opV 21 x y) := by
  unfold impl_DecSub.f
  rw [impl_are hx hy, Option.bind_some, if_pos (rfl : true = true), impl_mk]; rfl
theorem impl_div : impl_DecDiv.f x y = some (opV 23 x y) := by
  unfold impl_DecDiv.f
  rw [impl_are hx hy]
  simp only [Option.bind_some, if_true]
  show _ = some (if y = 0 then (0, false) else mk (wrap64 (Int.tdiv (wrap64 (x * 1000000)) y)))
  by_cases h : y = 0
  · rw [if_pos h, if_pos h]
  · rw [if_neg h, if_neg h, impl_mk]; rfl
theorem impl_mod : impl_DecMod.f x y = some (opV 24 x y) := by
  unfold impl_DecMod.f
  rw [impl_are hx hy]
  simp only [Option.bind_some, if_true]
  show _ = some (if y = 0 then (0, false) else (Int.tmod x y, true))
  by_cases h : y = 0
  · rw [if_pos h, if_pos h]
  · rw [if_neg h, if_neg h]
end

def num (t b : Int) (s : ByteArray) : Int := if t = 2 then (readV s).1 else b
theorem num_range {t b : Int} {s : ByteArray} (h : cellOkV t b s = true) : IsDec (num t b s) := by
  have hr := read_bounds s
  unfold cellOkV at h
  unfold num IsDec
  split at h
  · cases h
  · by_cases h2 : t = 2
    · rw [if_pos h2]; exact ⟨hr.1, hr.2.1⟩
    · rw [if_neg h2]
      split at h
      · split at h
        · have := eq_of_beq h; omega
        · cases h
      · split at h
        · split at h
          · unfold decOkV at h; simpa using h
          · cases h
        · split at h
          · split at h
            · have := eq_of_beq h; omega
            · cases h
          · cases h
def tailV (d y : Int) (p : Int × Bool) : Int × Int × ByteArray × Int :=
  if p.2 = true then (1, p.1, (⟨#[]⟩ : ByteArray), 0) else if y = 0 ∧ d ≥ 23 then (0, 0, (⟨#[]⟩ : ByteArray), 2) else (0, 0, (⟨#[]⟩ : ByteArray), 1)
theorem spec_artail (d y : Int) (p : Int × Bool) (k : Nat) : spec_Arith.j1 (k + 1) d y p.1 p.2 = some (tailV d y p) := by
  unfold tailV
  simp only [spec_Arith.j1]
  by_cases h : p.2 = true
  · rw [if_pos h, if_pos h]
  · rw [if_neg h, if_neg h]
    by_cases h0 : y = 0
    · rw [if_pos h0]
      by_cases hd : d ≥ 23
      · rw [if_pos hd, if_pos ⟨h0, hd⟩]
      · rw [if_neg hd, if_neg (fun z => hd z.2)]
    · rw [if_neg h0, if_neg (fun z => h0 z.1)]
theorem impl_artail (d y : Int) (p : Int × Bool) (h : ¬ (y = 0 ∧ d ≥ 23)) : (if p.2 = true then (some (1, p.1, (⟨#[]⟩ : ByteArray), 0)) else (some (0, 0, (⟨#[]⟩ : ByteArray), 1))) = some (tailV d y p) := by
  unfold tailV
  by_cases hp : p.2 = true
  · rw [if_pos hp, if_pos hp]
  · rw [if_neg hp, if_neg hp, if_neg h]
def arV (d t1 b1 : Int) (s1 : ByteArray) (t2 b2 : Int) (s2 : ByteArray) : Int × Int × ByteArray × Int :=
  if (20 ≤ d ∧ d ≤ 24) ∧ cellOkV t1 b1 s1 = true ∧ cellOkV t2 b2 s2 = true then tailV d (num t2 b2 s2) (opV d (num t1 b1 s1) (num t2 b2 s2)) else (0, 0, (⟨#[]⟩ : ByteArray), 3)

section
variable {d t1 b1 t2 b2 : Int} {s1 s2 : ByteArray} (h1 : s1.size ≤ 140737488351232) (h2 : s2.size ≤ 140737488351232)
include h1 h2
theorem spec_ar : Ev (fun k => spec_Arith.f k d t1 b1 s1 t2 b2 s2) (arV d t1 b1 s1 t2 b2 s2) := by
  obtain ⟨K1, c1⟩ := spec_cell t1 b1 s1 h1
  obtain ⟨K2, c2⟩ := spec_cell t2 b2 s2 h2
  obtain ⟨K3, r1⟩ := spec_read s1 h1
  obtain ⟨K4, r2⟩ := spec_read s2 h2
  have bad : ∀ k, spec_Arith.j0 (k + 1) d true t1 b1 s1 t2 b2 s2 = some (0, 0, (⟨#[]⟩ : ByteArray), 3) := fun k => by simp only [spec_Arith.j0]; rw [if_pos (by trivial)]
  unfold arV
  by_cases hd : 20 ≤ d ∧ d ≤ 24
  · have hstep : ∀ k, spec_Arith.f k d t1 b1 s1 t2 b2 s2 = ((spec_CellOk.f k t1 b1 s1).bind fun t145 => (if t145 = true then ((spec_CellOk.f k t2 b2 s2).bind fun t146 => (spec_Arith.j0 k d (!t146) t1 b1 s1 t2 b2 s2)) else (spec_Arith.j0 k d true t1 b1 s1 t2 b2 s2))) := fun k => by
      unfold spec_Arith.f; rw [if_neg (by omega), if_neg (by omega)]
    by_cases e1 : cellOkV t1 b1 s1 = true
    · by_cases e2 : cellOkV t2 b2 s2 = true
      · rw [if_pos ⟨hd, e1, e2⟩]
        have x1 := num_range e1
        have x2 := num_range e2
        have n1 : ∀ k, K1 ≤ k → K3 ≤ k → spec_ToNum.f k t1 b1 s1 = some (num t1 b1 s1) := fun k q1 q2 => by
          unfold spec_ToNum.f num
          rw [(show spec_CellOk.f k t1 b1 s1 = _ from c1 k q1), e1, Option.bind_some, if_pos (rfl : true = true), (show spec_ReadDec.f k s1 = _ from r1 k q2)]
          split <;> rfl
        have n2 : ∀ k, K2 ≤ k → K4 ≤ k → spec_ToNum.f k t2 b2 s2 = some (num t2 b2 s2) := fun k q1 q2 => by
          unfold spec_ToNum.f num
          rw [(show spec_CellOk.f k t2 b2 s2 = _ from c2 k q1), e2, Option.bind_some, if_pos (rfl : true = true), (show spec_ReadDec.f k s2 = _ from r2 k q2)]
          split <;> rfl
        obtain ⟨K5, mul⟩ := spec_mul x1 x2
        refine ⟨K1 + K2 + K3 + K4 + K5 + 3, fun k hk => ?_⟩
        obtain ⟨k, rfl⟩ : ∃ m, k = m + 3 := ⟨k - 3, by omega⟩
        show spec_Arith.f _ d t1 b1 s1 t2 b2 s2 = _
        rw [hstep, (show spec_CellOk.f (k + 3) t1 b1 s1 = _ from c1 (k + 3) (by omega)), e1, Option.bind_some, if_pos (rfl : true = true), (show spec_CellOk.f (k + 3) t2 b2 s2 = _ from c2 (k + 3) (by omega)), e2, Option.bind_some]
        simp only [Bool.not_true, spec_Arith.j0]
        rw [if_neg (by simp), n1 (k + 2) (by omega) (by omega), Option.bind_some, n2 (k + 2) (by omega) (by omega), Option.bind_some]
        have hmul : spec_DecMul.f (k + 2) (num t1 b1 s1) (num t2 b2 s2) = some (opV 22 (num t1 b1 s1) (num t2 b2 s2)) := mul (k + 2) (by omega)
        have hd5 : d = 20 ∨ d = 21 ∨ d = 22 ∨ d = 23 ∨ d = 24 := by omega
        rcases hd5 with rfl | rfl | rfl | rfl | rfl
        · rw [if_pos (by trivial), spec_add x1 x2, Option.bind_some, spec_artail]
        · rw [if_neg (by omega), if_pos (by trivial), spec_sub x1 x2, Option.bind_some, spec_artail]
        · rw [if_neg (by omega), if_neg (by omega), if_pos (by trivial), hmul, Option.bind_some, spec_artail]
        · rw [if_neg (by omega), if_neg (by omega), if_neg (by omega), if_pos (by trivial), spec_div x1 x2, Option.bind_some, spec_artail]
        · rw [if_neg (by omega), if_neg (by omega), if_neg (by omega), if_neg (by omega), spec_mod x1 x2, Option.bind_some, spec_artail]
      · rw [if_neg (fun z => e2 z.2.2)]
        refine ⟨K1 + K2 + 1, fun k hk => ?_⟩
        obtain ⟨k, rfl⟩ : ∃ m, k = m + 1 := ⟨k - 1, by omega⟩
        show spec_Arith.f _ d t1 b1 s1 t2 b2 s2 = _
        rw [hstep, (show spec_CellOk.f (k + 1) t1 b1 s1 = _ from c1 (k + 1) (by omega)), e1, Option.bind_some, if_pos (rfl : true = true), (show spec_CellOk.f (k + 1) t2 b2 s2 = _ from c2 (k + 1) (by omega)), Bool.eq_false_iff.2 e2, Option.bind_some]
        exact bad k
    · rw [if_neg (fun z => e1 z.2.1)]
      refine ⟨K1 + 1, fun k hk => ?_⟩
      obtain ⟨k, rfl⟩ : ∃ m, k = m + 1 := ⟨k - 1, by omega⟩
      show spec_Arith.f _ d t1 b1 s1 t2 b2 s2 = _
      rw [hstep, (show spec_CellOk.f (k + 1) t1 b1 s1 = _ from c1 (k + 1) (by omega)), Bool.eq_false_iff.2 e1, Option.bind_some, if_neg (by simp)]
      exact bad k
  · rw [if_neg (fun z => hd z.1)]
    refine ⟨1, fun k hk => ?_⟩
    obtain ⟨k, rfl⟩ : ∃ m, k = m + 1 := ⟨k - 1, by omega⟩
    show spec_Arith.f (k + 1) d t1 b1 s1 t2 b2 s2 = _
    unfold spec_Arith.f
    by_cases g : d < 20
    · rw [if_pos g]; exact bad k
    · rw [if_neg g, if_pos (by omega)]; exact bad k

theorem impl_ar : Ev (fun k => impl_Arith.f k d t1 b1 s1 t2 b2 s2) (arV d t1 b1 s1 t2 b2 s2) := by
  obtain ⟨K1, c1⟩ := impl_cell t1 b1 s1 h1
  obtain ⟨K2, c2⟩ := impl_cell t2 b2 s2 h2
  obtain ⟨K3, r1⟩ := impl_read s1 h1
  obtain ⟨K4, r2⟩ := impl_read s2 h2
  have bad : ∀ k, impl_Arith.j0 (k + 1) d true t1 b1 s1 t2 b2 s2 = some (0, 0, (⟨#[]⟩ : ByteArray), 3) := fun k => by simp only [impl_Arith.j0]; rw [if_pos (by trivial)]
  unfold arV
  by_cases hd : 20 ≤ d ∧ d ≤ 24
  · have hb : impl_between.f d 20 24 = some true := by unfold impl_between.f; rw [if_pos (by omega), decide_eq_true (by omega)]
    have hstep : ∀ k, impl_Arith.f k d t1 b1 s1 t2 b2 s2 = ((impl_CellOk.f k t1 b1 s1).bind fun t206 => (if t206 = true then ((impl_CellOk.f k t2 b2 s2).bind fun t207 => (impl_Arith.j0 k d (!t207) t1 b1 s1 t2 b2 s2)) else (impl_Arith.j0 k d true t1 b1 s1 t2 b2 s2))) := fun k => by
      unfold impl_Arith.f; rw [hb]; rfl
    by_cases e1 : cellOkV t1 b1 s1 = true
    · by_cases e2 : cellOkV t2 b2 s2 = true
      · rw [if_pos ⟨hd, e1, e2⟩]
        have x1 := num_range e1
        have x2 := num_range e2
        have n1 : ∀ k, K3 ≤ k → impl_Cell_num.f k t1 b1 s1 = some (num t1 b1 s1) := fun k q2 => by
          unfold impl_Cell_num.f num
          rw [(show impl_ReadDec.f k s1 = _ from r1 k q2)]
          split <;> rfl
        have n2 : ∀ k, K4 ≤ k → impl_Cell_num.f k t2 b2 s2 = some (num t2 b2 s2) := fun k q2 => by
          unfold impl_Cell_num.f num
          rw [(show impl_ReadDec.f k s2 = _ from r2 k q2)]
          split <;> rfl
        obtain ⟨K5, mul⟩ := impl_mul x1 x2
        refine ⟨K1 + K2 + K3 + K4 + K5 + 4, fun k hk => ?_⟩
        obtain ⟨k, rfl⟩ : ∃ m, k = m + 4 := ⟨k - 4, by omega⟩
        show impl_Arith.f _ d t1 b1 s1 t2 b2 s2 = _
        rw [hstep, (show impl_CellOk.f (k + 4) t1 b1 s1 = _ from c1 (k + 4) (by omega)), e1, Option.bind_some, if_pos (rfl : true = true), (show impl_CellOk.f (k + 4) t2 b2 s2 = _ from c2 (k + 4) (by omega)), e2, Option.bind_some]
        simp only [Bool.not_true, impl_Arith.j0]
        rw [if_neg (by simp), n1 (k + 3) (by omega), Option.bind_some, n2 (k + 3) (by omega), Option.bind_some]
        have hmul : impl_DecMul.f (k + 2) (num t1 b1 s1) (num t2 b2 s2) = some (opV 22 (num t1 b1 s1) (num t2 b2 s2)) := mul (k + 2) (by omega)
        have hgo : ¬ (num t2 b2 s2 = 0 ∧ d ≥ 23) → impl_Arith.j1 (k + 3) d (num t1 b1 s1) (num t2 b2 s2) 0 false false = some (tailV d (num t2 b2 s2) (opV d (num t1 b1 s1) (num t2 b2 s2))) := fun hz => by
          simp only [impl_Arith.j1]
          rw [if_neg (by simp)]
          have hd5 : d = 20 ∨ d = 21 ∨ d = 22 ∨ d = 23 ∨ d = 24 := by omega
          rcases hd5 with rfl | rfl | rfl | rfl | rfl
          · rw [if_pos (by trivial), impl_add x1 x2, Option.bind_some, impl_artail _ _ _ hz]
          · rw [if_neg (by omega), if_pos (by trivial), impl_sub x1 x2, Option.bind_some, impl_artail _ _ _ hz]
          · rw [if_neg (by omega), if_neg (by omega), if_pos (by trivial), hmul, Option.bind_some, impl_artail _ _ _ hz]
          · rw [if_neg (by omega), if_neg (by omega), if_neg (by omega), if_pos (by trivial), impl_div x1 x2, Option.bind_some, impl_artail _ _ _ hz]
          · rw [if_neg (by omega), if_neg (by omega), if_neg (by omega), if_neg (by omega), if_pos (by trivial), impl_mod x1 x2, Option.bind_some, impl_artail _ _ _ hz]
        by_cases hz : num t2 b2 s2 = 0
        · rw [if_pos hz]
          by_cases hd3 : d ≥ 23
          · have hno : opV d (num t1 b1 s1) (num t2 b2 s2) = (0, false) := by
              unfold opV
              rw [if_neg (by omega), if_neg (by omega), if_neg (by omega), if_pos hz]
              split <;> rfl
            have hr : ∀ j, impl_Arith.j1 (j + 1) d (num t1 b1 s1) (num t2 b2 s2) 0 false true = some (0, 0, (⟨#[]⟩ : ByteArray), 2) := fun j => by simp only [impl_Arith.j1]; rw [if_pos (by trivial)]
            rw [hno]
            have hv : tailV d (num t2 b2 s2) (0, false) = (0, 0, (⟨#[]⟩ : ByteArray), 2) := by
              unfold tailV; rw [if_neg (by simp), if_pos ⟨hz, hd3⟩]
            rw [hv]
            by_cases h23 : d = 23
            · rw [if_pos h23]; exact hr _
            · rw [if_neg h23, show (d == 24) = true by simp; omega]; exact hr _
          · rw [if_neg (by omega), show (d == 24) = false by simp; omega]
            exact hgo (fun z => hd3 z.2)
        · rw [if_neg hz]
          exact hgo (fun z => hz z.1)
      · rw [if_neg (fun z => e2 z.2.2)]
        refine ⟨K1 + K2 + 1, fun k hk => ?_⟩
        obtain ⟨k, rfl⟩ : ∃ m, k = m + 1 := ⟨k - 1, by omega⟩
        show impl_Arith.f _ d t1 b1 s1 t2 b2 s2 = _
        rw [hstep, (show impl_CellOk.f (k + 1) t1 b1 s1 = _ from c1 (k + 1) (by omega)), e1, Option.bind_some, if_pos (rfl : true = true), (show impl_CellOk.f (k + 1) t2 b2 s2 = _ from c2 (k + 1) (by omega)), Bool.eq_false_iff.2 e2, Option.bind_some]
        exact bad k
    · rw [if_neg (fun z => e1 z.2.1)]
      refine ⟨K1 + 1, fun k hk => ?_⟩
      obtain ⟨k, rfl⟩ : ∃ m, k = m + 1 := ⟨k - 1, by omega⟩
      show impl_Arith.f _ d t1 b1 s1 t2 b2 s2 = _
      rw [hstep, (show impl_CellOk.f (k + 1) t1 b1 s1 = _ from c1 (k + 1) (by omega)), Bool.eq_false_iff.2 e1, Option.bind_some, if_neg (by simp)]
      exact bad k
  · rw [if_neg (fun z => hd z.1)]
    have hb : impl_between.f d 20 24 = some false := by
      unfold impl_between.f
      by_cases g : d ≥ 20
      · rw [if_pos g, decide_eq_false (by omega)]
      · rw [if_neg g]
    refine ⟨1, fun k hk => ?_⟩
    obtain ⟨k, rfl⟩ : ∃ m, k = m + 1 := ⟨k - 1, by omega⟩
    show impl_Arith.f (k + 1) d t1 b1 s1 t2 b2 s2 = _
    unfold impl_Arith.f
    rw [hb, Option.bind_some, if_neg (by simp)]
    exact bad k
end
end Go.Proofs.Ytlemhidllcbadaa.PFnExactArith
