/- DecMul: the product by 64-bit words, and by hand. -/
import Derived.Test.YtlemhidllcbadaaXLem
import Derived.Laws.BitsLemmas
import Derived.Test.YtlemhidllcbadaaPFnExactArithx
namespace Go.Proofs.Ytlemhidllcbadaa.PFnExactArith
set_option linter.unusedVariables false
set_option linter.unusedSimpArgs false
open Go.RowKit Go.Proofs.YtlemhidllcbadaaW.PrintWords Go.Proofs.YtlemhidllcbadaaW.PrintLast Go.Proofs.YtlemhidllcbadaaW.PrintMore Go.Proofs.Ytlemhidllcbadaa.XL

theorem u64_mod (n : Int) : IntKind.u64.wrap n = n % 18446744073709551616 := by simp [IntKind.wrap, IntKind.bits, IntKind.signed]
theorem u64_id {n : Int} (h0 : 0 ≤ n) (h1 : n < 18446744073709551616) : IntKind.u64.wrap n = n := by rw [u64_mod]; omega
theorem p64 : (2 : Int) ^ 64 = 18446744073709551616 := by decide
theorem p44 : (2 : Int) ^ 44 = 17592186044416 := by decide
theorem u64_wraps (n : Int) (h0 : 0 ≤ n) (h1 : n < 2 ^ 64) : IntKind.u64.wrap n = n := u64_id h0 (by rw [p64] at h1; exact h1)
theorem and_low {x : Int} (h0 : 0 ≤ x) (h1 : x < 18446744073709551616) : Go.bits .and .u64 x 4294967295 = x % 4294967296 :=
  bits_mask .u64 64 (by decide) u64_wraps 32 (by decide) x h0 (by rw [p64]; exact h1)
theorem or_join {x y : Int} (hx0 : 0 ≤ x) (hx : x % 17592186044416 = 0) (hx1 : x < 18446744073709551616) (hy0 : 0 ≤ y) (hy : y < 17592186044416) : Go.bits .or .u64 x y = x + y :=
  bits_join .u64 64 (by decide) u64_wraps 44 x y hx0 (by rw [p44]; exact hx) (by rw [p64]; exact hx1) hy0 (by rw [p44]; exact hy) (by rw [p64]; omega)
theorem shl44 (x : Int) : shl .u64 x 44 = (x * 17592186044416) % 18446744073709551616 := by
  unfold shl
  rw [u64_mod, show min (44 : Int).toNat IntKind.u64.bits = 44 from rfl, show (2 : Int) ^ 44 = 17592186044416 from by decide]
theorem shr20 (x : Int) : shr .u64 x 20 = x / 1048576 := by
  unfold shr
  rw [show min (20 : Int).toNat IntKind.u64.bits = 20 from rfl, show (2 : Int) ^ 20 = 1048576 from by decide]

/-- The schoolbook product of two 64-bit words. -/
theorem mul64 {x y : Int} (hx0 : 0 ≤ x) (hx : x ≤ 9000000000000) (hy0 : 0 ≤ y) (hy : y ≤ 9000000000000) : bits_Mul64.f x y = some (x * y / 18446744073709551616, x * y % 18446744073709551616) := by
  have ex : x = x / 4294967296 * 4294967296 + x % 4294967296 := by omega
  have ey : y = y / 4294967296 * 4294967296 + y % 4294967296 := by omega
  have bx1 : 0 ≤ x / 4294967296 ∧ x / 4294967296 ≤ 2096 := by omega
  have by1 : 0 ≤ y / 4294967296 ∧ y / 4294967296 ≤ 2096 := by omega
  have bx0 : 0 ≤ x % 4294967296 ∧ x % 4294967296 ≤ 4294967295 := by omega
  have by0 : 0 ≤ y % 4294967296 ∧ y % 4294967296 ≤ 4294967295 := by omega
  unfold bits_Mul64.f
  rw [and_low hx0 (by omega), and_low hy0 (by omega)]
  generalize hx1 : x / 4294967296 = x1 at *
  generalize hx00 : x % 4294967296 = x0 at *
  generalize hy1 : y / 4294967296 = y1 at *
  generalize hy00 : y % 4294967296 = y0 at *
  have p11 : 0 ≤ x1 * y1 ∧ x1 * y1 ≤ 2096 * 2096 := ⟨Int.mul_nonneg bx1.1 by1.1, Int.mul_le_mul bx1.2 by1.2 by1.1 (by omega)⟩
  have p10 : 0 ≤ x1 * y0 ∧ x1 * y0 ≤ 2096 * 4294967295 := ⟨Int.mul_nonneg bx1.1 by0.1, Int.mul_le_mul bx1.2 by0.2 by0.1 (by omega)⟩
  have p01 : 0 ≤ x0 * y1 ∧ x0 * y1 ≤ 4294967295 * 2096 := ⟨Int.mul_nonneg bx0.1 by1.1, Int.mul_le_mul bx0.2 by1.2 by1.1 (by omega)⟩
  have p00 : 0 ≤ x0 * y0 ∧ x0 * y0 ≤ 4294967295 * 4294967295 := ⟨Int.mul_nonneg bx0.1 by0.1, Int.mul_le_mul bx0.2 by0.2 by0.1 (by omega)⟩
  have exy : x * y = x1 * y1 * 18446744073709551616 + (x1 * y0 + x0 * y1) * 4294967296 + x0 * y0 := by rw [ex, ey]; grind
  rw [exy]
  generalize x1 * y1 = a at *
  generalize x1 * y0 = b at *
  generalize x0 * y1 = c at *
  generalize x0 * y0 = d at *
  rw [u64_id (n := a) (by omega) (by omega), u64_id (n := b) (by omega) (by omega), u64_id (n := c) (by omega) (by omega), u64_id (n := d) (by omega) (by omega)]
  rw [u64_id (n := b + d / 4294967296) (by omega) (by omega), u64_id (n := a + (b + d / 4294967296) / 4294967296) (by omega) (by omega), and_low (x := b + d / 4294967296) (by omega) (by omega), u64_id (n := (b + d / 4294967296) % 4294967296 + c) (by omega) (by omega), u64_id (n := a + (b + d / 4294967296) / 4294967296 + ((b + d / 4294967296) % 4294967296 + c) / 4294967296) (by omega) (by omega), u64_mod]
  congr 1
  rw [Prod.mk.injEq]
  exact ⟨by omega, rfl⟩

theorem div_core {hi lo U L : Int} (h0 : 0 ≤ hi) (h1 : hi < 1000000) (h2 : 0 ≤ lo) (h3 : lo < 18446744073709551616) (hU : U = hi * 17592186044416 + lo / 1048576) (hL : L = (lo * 17592186044416) % 18446744073709551616) :
    U / 4096000000 * 4294967296 + ((U - U / 4096000000 * 4096000000) * 4294967296 + L / 4294967296) / 4096000000 = (hi * 18446744073709551616 + lo) / 1000000 := by
  have hT : U * 4294967296 + L / 4294967296 = (hi * 18446744073709551616 + lo) * 4096 := by omega
  have hV : (hi * 18446744073709551616 + lo) / 1000000 = (hi * 18446744073709551616 + lo) * 4096 / 4096000000 := by omega
  rw [hV, ← hT]
  clear hV hT hU hL
  omega

theorem lead44 : ∀ k, bits_LeadingZeros64.f (k + 1) 1000000 = some 44 := by
  intro k
  unfold bits_LeadingZeros64.f bits_Len64.f
  rw [if_neg (by decide), bits_Len64.j0]
  decide +kernel

/-- The long division by a million, as the library does it: no digit is ever too great. -/
theorem div64 {hi lo : Int} (h0 : 0 ≤ hi) (h1 : hi < 1000000) (h2 : 0 ≤ lo) (h3 : lo < 18446744073709551616) : ∃ m, Ev (fun k => bits_Div64.f k hi lo 1000000) ((hi * 18446744073709551616 + lo) / 1000000, m) := by
  by_cases hz : hi = 0
  · subst hz
    refine ⟨Int.tmod lo 1000000, Ev.congr (f := fun _ => some ((0 * 18446744073709551616 + lo) / 1000000, Int.tmod lo 1000000)) (fun k => ?_) (Ev.now _)⟩
    unfold bits_Div64.f
    rw [if_neg (by decide), if_neg (by decide), if_pos rfl, Int.tdiv_eq_ediv_of_nonneg h2, u64_id (by omega) (by omega), Int.zero_mul, Int.zero_add]
  · generalize hU : hi * 17592186044416 + lo / 1048576 = U
    generalize hL : (lo * 17592186044416) % 18446744073709551616 = L
    have core := div_core h0 h1 h2 h3 hU.symm hL.symm
    have bU : 0 ≤ U ∧ U < 17592186044416000000 := by omega
    have bL : 0 ≤ L ∧ L < 18446744073709551616 := by omega
    have hq1 : 0 ≤ U / 4096000000 ∧ U / 4096000000 < 4294967296 := by omega
    have hr1 : 0 ≤ U - U / 4096000000 * 4096000000 ∧ U - U / 4096000000 * 4096000000 < 4096000000 := by omega
    have hun1 : 0 ≤ L / 4294967296 ∧ L / 4294967296 < 4294967296 := by omega
    have h21 : IntKind.u64.wrap (IntKind.u64.wrap (IntKind.u64.wrap (U * 4294967296) + L / 4294967296) - IntKind.u64.wrap (U / 4096000000 * 17592186044416000000)) = (U - U / 4096000000 * 4096000000) * 4294967296 + L / 4294967296 := by
      rw [u64_mod, u64_mod, u64_mod, u64_mod]
      clear core hU hL
      generalize U / 4096000000 = q at *
      generalize L / 4294967296 = u at *
      omega
    generalize hN : (U - U / 4096000000 * 4096000000) * 4294967296 + L / 4294967296 = N at *
    have bN : 0 ≤ N ∧ N < 17592186044416000000 := by omega
    have hq0 : 0 ≤ N / 4096000000 ∧ N / 4096000000 < 4294967296 := by omega
    have hV : 0 ≤ (hi * 18446744073709551616 + lo) / 1000000 := by omega
    have step : ∀ k, bits_Div64.f (k + 1) hi lo 1000000 = bits_Div64.l0 (k + 1) 17592186044416000000 44 4096000000 0 U (L / 4294967296) (L % 4294967296) (U / 4096000000) (U - U / 4096000000 * 4096000000) := by
      intro k
      unfold bits_Div64.f
      rw [if_neg (by decide), if_neg (by omega), if_neg hz, lead44 k, Option.bind_some]
      have e44 : IntKind.u64.wrap 44 = 44 := by decide
      have e20 : IntKind.u64.wrap (64 - 44) = 20 := by decide
      have ey : shl .u64 1000000 44 = 17592186044416000000 := by rw [shl44]; decide
      have eU : Go.bits .or .u64 (shl .u64 hi 44) (shr .u64 lo 20) = U := by
        rw [shl44, shr20, ← hU, Int.emod_eq_of_lt (by omega) (by omega), or_join (by omega) (by omega) (by omega) (by omega) (by omega)]
      have eL : shl .u64 lo 44 = L := by rw [shl44]; exact hL
      rw [e44, e20, ey, eU, eL, if_pos (by decide), if_pos (by decide), if_neg (by decide)]
      rw [and_low (x := 17592186044416000000) (by decide) (by decide), and_low (x := L) bL.1 bL.2]
      rw [show (17592186044416000000 : Int) / 4294967296 = 4096000000 by decide, show (17592186044416000000 : Int) % 4294967296 = 0 by decide, Int.tdiv_eq_ediv_of_nonneg bU.1, u64_id (n := U / 4096000000) hq1.1 (by omega), u64_id (n := U / 4096000000 * 4096000000) (by omega) (by omega), u64_id (n := U - U / 4096000000 * 4096000000) hr1.1 (by omega)]
    refine ⟨shr .u64 (IntKind.u64.wrap ((IntKind.u64.wrap ((IntKind.u64.wrap (N * 4294967296)) + L % 4294967296)) - (IntKind.u64.wrap (N / 4096000000 * 17592186044416000000)))) 44, ?_⟩
    have zero : ∀ q : Int, IntKind.u64.wrap (q * 0) = 0 := fun q => by rw [Int.mul_zero]; decide
    have main : Ev (fun k => bits_Div64.l0 k 17592186044416000000 44 4096000000 0 U (L / 4294967296) (L % 4294967296) (U / 4096000000) (U - U / 4096000000 * 4096000000))
        ((hi * 18446744073709551616 + lo) / 1000000, shr .u64 (IntKind.u64.wrap ((IntKind.u64.wrap ((IntKind.u64.wrap (N * 4294967296)) + L % 4294967296)) - (IntKind.u64.wrap (N / 4096000000 * 17592186044416000000)))) 44) := by
      refine Ev.step (f := fun k => bits_Div64.j1 k 17592186044416000000 44 4096000000 0 U (L / 4294967296) (L % 4294967296) (U / 4096000000) (U - U / 4096000000 * 4096000000) false) (fun k => ?_)
        (Ev.step (f := fun k => bits_Div64.j2 k 17592186044416000000 44 4096000000 0 U (L / 4294967296) (L % 4294967296) (U / 4096000000)) (fun k => ?_)
        (Ev.step (f := fun k => bits_Div64.l1 k 17592186044416000000 44 4096000000 0 (L % 4294967296) (U / 4096000000) (IntKind.u64.wrap (N - IntKind.u64.wrap (N / 4096000000 * 4096000000))) N (N / 4096000000)) (fun k => ?_)
        (Ev.step (f := fun k => bits_Div64.j4 k 17592186044416000000 44 4096000000 0 (L % 4294967296) (U / 4096000000) (IntKind.u64.wrap (N - IntKind.u64.wrap (N / 4096000000 * 4096000000))) N (N / 4096000000) false) (fun k => ?_)
        (Ev.step (f := fun _ => some _) (fun k => ?_) (Ev.now _)))))
      · simp only [bits_Div64.l0]
        rw [if_neg (by omega), zero, decide_eq_false (by rw [u64_mod]; omega)]
      · simp only [bits_Div64.j1]
        rw [if_neg (by simp)]
      · simp only [bits_Div64.j2]
        rw [if_neg (by decide), h21, Int.tdiv_eq_ediv_of_nonneg bN.1, u64_id (n := N / 4096000000) hq0.1 (by omega)]
      · simp only [bits_Div64.l1]
        rw [if_neg (by omega), zero, decide_eq_false (by rw [u64_mod]; omega)]
      · simp only [bits_Div64.j4]
        rw [if_neg (by simp), if_pos (by decide), u64_id (n := U / 4096000000 * 4294967296) (by omega) (by omega), u64_id (n := U / 4096000000 * 4294967296 + N / 4096000000) (by omega) (by omega), core]
    obtain ⟨K, hK⟩ := main
    refine ⟨K + 1, fun k hk => ?_⟩
    obtain ⟨k, rfl⟩ : ∃ m, k = m + 1 := ⟨k - 1, by omega⟩
    exact (step k).trans (hK (k + 1) (by omega))

/-- What the product is. -/
def mulV (a b : Int) : Int × Bool :=
  if max a (-a) * max b (-b) / 1000000 > 9000000000000 then (0, false)
  else (if (decide (a < 0) != decide (b < 0)) = true then -(max a (-a) * max b (-b) / 1000000) else max a (-a) * max b (-b) / 1000000, true)

theorem impl_mul {a b : Int} (ha : -9000000000000 ≤ a ∧ a ≤ 9000000000000) (hb : -9000000000000 ≤ b ∧ b ≤ 9000000000000) : Ev (fun k => impl_DecMul.f k a b) (mulV a b) := by
  have hmx : ∀ x y : Int, mx x y = max x y := fun x y => by unfold mx; split <;> omega
  have hX : 0 ≤ max a (-a) ∧ max a (-a) ≤ 9000000000000 := by omega
  have hY : 0 ≤ max b (-b) ∧ max b (-b) ≤ 9000000000000 := by omega
  have hd : impl_areDecs.f a b = some true := by
    unfold impl_areDecs.f impl_DecOk.f impl_between.f
    rw [if_pos (by omega), if_pos (by omega), decide_eq_true (by omega), decide_eq_true (by omega)]
    rfl
  have hm := mul64 hX.1 hX.2 hY.1 hY.2
  have hp : 0 ≤ max a (-a) * max b (-b) := Int.mul_nonneg hX.1 hY.1
  unfold mulV
  generalize hP : max a (-a) * max b (-b) = p at *
  by_cases hbig : p / 18446744073709551616 ≥ 1000000
  · rw [if_pos (by omega)]
    refine Ev.congr (f := fun _ => some (0, false)) (fun k => ?_) (Ev.now _)
    unfold impl_DecMul.f
    rw [hd, Option.bind_some, if_pos (rfl : true = true), wrap_id (n := -a) (by omega) (by omega), wrap_id (n := -b) (by omega) (by omega), hmx, hmx, u64_id (n := max a (-a)) (by omega) (by omega), u64_id (n := max b (-b)) (by omega) (by omega), hm, Option.bind_some, if_pos hbig]
  · obtain ⟨m, hdv⟩ := div64 (hi := p / 18446744073709551616) (lo := p % 18446744073709551616) (by omega) (by omega) (by omega) (by omega)
    rw [show p / 18446744073709551616 * 18446744073709551616 + p % 18446744073709551616 = p by omega] at hdv
    refine ev_use1 hdv (fun k g => ?_)
    unfold impl_DecMul.f
    rw [hd, Option.bind_some, if_pos (rfl : true = true), wrap_id (n := -a) (by omega) (by omega), wrap_id (n := -b) (by omega) (by omega), hmx, hmx, u64_id (n := max a (-a)) (by omega) (by omega), u64_id (n := max b (-b)) (by omega) (by omega), hm, Option.bind_some, if_neg hbig]
    simp only []
    rw [g, Option.bind_some]
    simp only []
    by_cases hg : p / 1000000 > 9000000000000
    · rw [if_pos hg, if_pos hg]
    · rw [if_neg hg, if_neg hg, wrap_id (n := p / 1000000) (by omega) (by omega), wrap_id (n := -(p / 1000000)) (by omega) (by omega)]
      split <;> rfl

theorem spec_mul {a b : Int} (ha : -9000000000000 ≤ a ∧ a ≤ 9000000000000) (hb : -9000000000000 ≤ b ∧ b ≤ 9000000000000) : Ev (fun k => spec_DecMul.f k a b) (mulV a b) := by
  have habs : ∀ x : Int, -9000000000000 ≤ x → x ≤ 9000000000000 → spec_l1abs.f x = some (max x (-x)) := fun x h1 h2 => by
    unfold spec_l1abs.f
    by_cases g : x < 0
    · rw [if_pos g, wrap_id (by omega) (by omega)]; congr 1; omega
    · rw [if_neg g]; congr 1; omega
  have hok : ∀ x : Int, -9000000000000 ≤ x → x ≤ 9000000000000 → spec_DecOk.f x = some true := fun x h1 h2 => by
    unfold spec_DecOk.f; rw [if_pos (by omega), decide_eq_true (by omega)]
  have hX : 0 ≤ max a (-a) ∧ max a (-a) ≤ 9000000000000 := by omega
  have hY : 0 ≤ max b (-b) ∧ max b (-b) ≤ 9000000000000 := by omega
  have hmade : ∀ x : Int, spec_l1made.f x = some (if -9000000000000 ≤ x ∧ x ≤ 9000000000000 then (x, true) else (0, false)) := fun x => by
    unfold spec_l1made.f spec_DecOk.f
    by_cases h1 : x ≥ -9000000000000
    · by_cases h2 : x ≤ 9000000000000
      · rw [if_pos h1, decide_eq_true h2, if_pos ⟨h1, h2⟩]; rfl
      · rw [if_pos h1, decide_eq_false h2, if_neg (fun z => h2 z.2)]; rfl
    · rw [if_neg h1, if_neg (fun z => h1 z.1)]; rfl
  unfold mulV
  generalize hx : max a (-a) = x at *
  generalize hy : max b (-b) = y at *
  have hw : 0 ≤ x / 1000000 ∧ x / 1000000 ≤ 9000000 := by omega
  have hr : 0 ≤ x % 1000000 ∧ x % 1000000 ≤ 999999 := by omega
  have p1 : 0 ≤ x / 1000000 * y := Int.mul_nonneg hw.1 hY.1
  have p2 : 0 ≤ x % 1000000 * y ∧ x % 1000000 * y ≤ 999999 * 9000000000000 := ⟨Int.mul_nonneg hr.1 hY.1, Int.mul_le_mul hr.2 hY.2 hY.1 (by omega)⟩
  have exy : x * y = (x / 1000000 * y) * 1000000 + x % 1000000 * y := by
    have e : x = x / 1000000 * 1000000 + x % 1000000 := by omega
    calc x * y = (x / 1000000 * 1000000 + x % 1000000) * y := by rw [← e]
      _ = _ := by grind
  have eq : x * y / 1000000 = x / 1000000 * y + x % 1000000 * y / 1000000 := by omega
  have tq : Int.tdiv x 1000000 = x / 1000000 := Int.tdiv_eq_ediv_of_nonneg hX.1
  have tr : Int.tmod x 1000000 = x % 1000000 := Int.tmod_eq_emod_of_nonneg hX.1
  have big : ∀ fl : Bool, (fl = true → x / 1000000 * y > 9000000000000) → (fl = false → x / 1000000 * y ≤ 9000000000000) → Ev (fun k => spec_DecMul.j1 k a b x y (x / 1000000) fl)
      (if x * y / 1000000 > 9000000000000 then (0, false) else (if (decide (a < 0) != decide (b < 0)) = true then -(x * y / 1000000) else x * y / 1000000, true)) := by
    intro fl h1 h2
    cases fl with
    | true =>
      have := h1 rfl
      rw [if_pos (by omega)]
      refine Ev.step (f := fun _ => some (0, false)) (fun k => ?_) (Ev.now _)
      simp only [spec_DecMul.j1]
      rw [if_pos (by trivial)]
    | false =>
      have hle := h2 rfl
      refine Ev.step (f := fun _ => some _) (fun k => ?_) (Ev.now _)
      simp only [spec_DecMul.j1]
      clear tq tr
      have tr : Int.tmod x 1000000 = x % 1000000 := Int.tmod_eq_emod_of_nonneg hX.1
      rw [if_neg (by simp), tr, wrap_id (n := x / 1000000 * y) (by omega) (by omega), wrap_id (n := x % 1000000 * y) (by omega) (by omega), Int.tdiv_eq_ediv_of_nonneg p2.1, wrap_id (n := x % 1000000 * y / 1000000) (by omega) (by omega), wrap_id (n := x / 1000000 * y + x % 1000000 * y / 1000000) (by omega) (by omega), ← eq, wrap_id (n := -(x * y / 1000000)) (by omega) (by omega), hmade, hmade]
      simp only [Option.bind_some]
      by_cases hg : x * y / 1000000 > 9000000000000
      · have e1 : ¬ (-9000000000000 ≤ -(x * y / 1000000) ∧ -(x * y / 1000000) ≤ 9000000000000) := by omega
        have e2 : ¬ (-9000000000000 ≤ x * y / 1000000 ∧ x * y / 1000000 ≤ 9000000000000) := by omega
        rw [if_pos hg, if_neg e1, if_neg e2]
        split <;> rfl
      · have e1 : -9000000000000 ≤ -(x * y / 1000000) ∧ -(x * y / 1000000) ≤ 9000000000000 := by omega
        have e2 : -9000000000000 ≤ x * y / 1000000 ∧ x * y / 1000000 ≤ 9000000000000 := by omega
        rw [if_neg hg, if_pos e1, if_pos e2]
        split <;> rfl
  have key : Ev (fun k => spec_DecMul.j0 k a b false) (if x * y / 1000000 > 9000000000000 then (0, false) else (if (decide (a < 0) != decide (b < 0)) = true then -(x * y / 1000000) else x * y / 1000000, true)) := by
    by_cases hz : x / 1000000 > 0
    · have hdm : y > 9000000000000 / (x / 1000000) ↔ x / 1000000 * y > 9000000000000 := by
        rw [Int.mul_comm]
        constructor
        · intro h; exact Int.lt_mul_of_ediv_lt hz h
        · intro h; exact Int.ediv_lt_of_lt_mul hz h
      refine Ev.step (fun k => ?_) (big (decide (y > 9000000000000 / (x / 1000000))) (fun h => hdm.1 (of_decide_eq_true h)) (fun h => by have := of_decide_eq_false h; rw [hdm] at this; omega))
      simp only [spec_DecMul.j0]
      have hd0 : 0 ≤ (9000000000000 : Int) / (x / 1000000) ∧ (9000000000000 : Int) / (x / 1000000) ≤ 9000000000000 := ⟨Int.ediv_nonneg (by omega) (by omega), Int.ediv_le_self _ (by omega)⟩
      rw [if_neg (by simp), habs a ha.1 ha.2, habs b hb.1 hb.2, hx, hy]
      simp only [Option.bind_some]
      rw [tq, wrap_id (n := x / 1000000) (by omega) (by omega), if_pos hz, if_neg (by omega), wrap_id (n := 9000000000000 / (x / 1000000)) (by omega) (by omega)]
    · have hx0 : x / 1000000 = 0 := by omega
      refine Ev.step (fun k => ?_) (big false (fun h => absurd h (by simp)) (fun _ => by rw [hx0]; omega))
      simp only [spec_DecMul.j0]
      rw [if_neg (by simp), habs a ha.1 ha.2, habs b hb.1 hb.2, hx, hy]
      simp only [Option.bind_some]
      rw [tq, wrap_id (n := x / 1000000) (by omega) (by omega), if_neg hz]
  refine Ev.congr (fun k => ?_) key
  unfold spec_DecMul.f
  rw [hok a ha.1 ha.2, hok b hb.1 hb.2, Option.bind_some, if_pos (rfl : true = true), Option.bind_some]
  rfl
end Go.Proofs.Ytlemhidllcbadaa.PFnExactArith
