/- DecText: the notation of a decimal, in the program and in the reference. -/
import Derived.Test.YtlemhidllcbadaaDoorXBa
import Derived.Test.YtlemhidllcbadaaDoorPFnExactTokTextx
namespace Go.Proofs.YtlemhidllcbadaaDoor.PFnExactTokText
set_option linter.unusedVariables false
set_option linter.unusedSimpArgs false
open Go.RowKit Go.Proofs.YtlemhidllcbadaaDoorW.PrintWords Go.Proofs.YtlemhidllcbadaaDoorW.PrintLast Go.Proofs.YtlemhidllcbadaaDoorW.PrintMore Go.Proofs.YtlemhidllcbadaaDoor.XL
open Go.Lib (decDigits)

theorem l1dec_text : ∀ (u : Nat), u ≤ 9000000000000 → Ev (fun k => spec_l1dec.f k (u : Int)) (ba (decDigits u)) := by
  intro u
  induction u using Nat.strongRecOn with
  | ind u ih =>
    intro hu
    have hb : ((wrap64 (48 + Int.tmod (u : Int) 10)) % 256).toNat = 48 + u % 10 := by
      rw [Int.tmod_eq_emod_of_nonneg (by omega), wrap_id (by omega) (by omega)]
      omega
    by_cases h : u < 10
    · rw [dec_small h]
      refine Ev.step (f := fun _ => some _) (fun k => ?_) (Ev.now _)
      simp only [spec_l1dec.f, Option.bind_some]
      rw [if_pos (by omega), strOf_one, hb, Nat.mod_eq_of_lt h]
    · rw [dec_big (by omega)]
      have h1 := ih (u / 10) (by omega) (by omega)
      have hl := dec_length (u / 10)
      obtain ⟨K, hK⟩ := h1
      refine ⟨K + 1, fun k hk => ?_⟩
      obtain ⟨k, rfl⟩ : ∃ m, k = m + 1 := ⟨k - 1, by omega⟩
      simp only [spec_l1dec.f, Option.bind_some]
      have e : wrap64 (Int.tdiv (u : Int) 10) = ((u / 10 : Nat) : Int) := by
        rw [Int.tdiv_eq_ediv_of_nonneg (by omega), wrap_id (by omega) (by omega)]
        omega
      rw [if_neg (by omega), e, (show spec_l1dec.f k ((u / 10 : Nat) : Int) = _ from hK k (by omega)), Option.bind_some, strOf_one, hb, ba_append, ba_size, ba_size, if_pos (by simp; omega)]

theorem text_loop : ∀ (w r : Nat) (s : List UInt8), w ≤ 6 → r < 10 ^ w → s.length + w ≤ 9000000000000 → Ev (fun k => spec_DecText.l0 k (ba s) (r : Int) ((10 ^ w / 10 : Nat) : Int)) (ba (s ++ frc w r)) := by
  intro w
  induction w with
  | zero =>
    intro r s _ h _
    have e : r = 0 := by simpa using h
    subst e
    refine Ev.step (f := fun _ => some _) (fun k => ?_) (Ev.now _)
    simp only [spec_DecText.l0]
    rw [if_neg (by omega), frc_zero, List.append_nil]
  | succ w ih =>
    intro r s hw h hs
    have hp : 0 < 10 ^ w := Nat.pow_pos (by omega)
    have hp6 : 10 ^ w ≤ 10 ^ 6 := Nat.pow_le_pow_right (by omega) (by omega)
    have hr : r % 10 ^ w < 10 ^ w := Nat.mod_lt _ hp
    have hd : r / 10 ^ w < 10 := by rw [Nat.div_lt_iff_lt_mul hp]; rw [Nat.pow_succ] at h; omega
    have eu : 10 ^ (w + 1) / 10 = 10 ^ w := by rw [Nat.pow_succ]; exact Nat.mul_div_cancel _ (by omega)
    rw [eu]
    by_cases h0 : r = 0
    · subst h0
      refine Ev.step (f := fun _ => some _) (fun k => ?_) (Ev.now _)
      simp only [spec_DecText.l0]
      rw [if_neg (by omega), frc_zero, List.append_nil]
    · simp only [frc]
      rw [if_neg h0]
      have h1 := ih (r % 10 ^ w) (s ++ [UInt8.ofNat (48 + r / 10 ^ w)]) (by omega) hr
      have h1 := h1 (by rw [List.length_append]; simp; omega)
      have h2 := l1dec_text (r / 10 ^ w) (by omega)
      rw [dec_small hd] at h2
      rw [List.append_assoc] at h1
      refine ev_use h2 h1 (fun k g1 g2 => ?_)
      simp only [spec_DecText.l0]
      have e1 : wrap64 (Int.tdiv (r : Int) ((10 ^ w : Nat) : Int)) = ((r / 10 ^ w : Nat) : Int) := by
        rw [Int.tdiv_eq_ediv_of_nonneg (by omega), ← Int.natCast_ediv]
        generalize r / 10 ^ w = q at hd
        exact wrap_id (by omega) (by omega)
      have e2 : Int.tmod (r : Int) ((10 ^ w : Nat) : Int) = ((r % 10 ^ w : Nat) : Int) := by
        rw [Int.tmod_eq_emod_of_nonneg (by omega), ← Int.natCast_emod]
      have e3 : wrap64 (Int.tdiv ((10 ^ w : Nat) : Int) 10) = ((10 ^ w / 10 : Nat) : Int) := by
        rw [Int.tdiv_eq_ediv_of_nonneg (by omega), wrap_id (by omega) (by omega)]
        omega
      rw [if_pos (by omega), if_neg (by omega), e1, g1, Option.bind_some, ba_append, ba_size, ba_size, if_pos (by simp; omega), e2, e3]
      exact g2

/-- The reference's text. -/
theorem spec_text {a : Int} (h : -9000000000000 ≤ a ∧ a ≤ 9000000000000) : Ev (fun k => spec_DecText.f k a) (ba (decText a)) := by
  have hok : spec_DecOk.f a = some true := by unfold spec_DecOk.f; rw [if_pos (by omega), decide_eq_true (by omega)]
  have habs : spec_l1abs.f a = some ((a.natAbs : Nat) : Int) := by
    unfold spec_l1abs.f
    by_cases g : a < 0
    · rw [if_pos g, wrap_id (by omega) (by omega)]; congr 1; omega
    · rw [if_neg g]; congr 1; omega
  have hm : a.natAbs ≤ 9000000000000 := by omega
  have edec := l1dec_text (a.natAbs / 1000000) (by omega)
  have hl := dec_length (a.natAbs / 1000000)
  have eq : wrap64 (Int.tdiv ((a.natAbs : Nat) : Int) 1000000) = ((a.natAbs / 1000000 : Nat) : Int) := by
    rw [Int.tdiv_eq_ediv_of_nonneg (by omega), wrap_id (by omega) (by omega)]; omega
  have er : Int.tmod ((a.natAbs : Nat) : Int) 1000000 = ((a.natAbs % 1000000 : Nat) : Int) := by
    rw [Int.tmod_eq_emod_of_nonneg (by omega)]; omega
  have tail : ∀ s : List UInt8, s.length ≤ 9000002 → Ev (fun k => spec_DecText.j0 k a (ba s)) (ba (s ++ (if a.natAbs % 1000000 = 0 then [] else 46 :: frc 6 (a.natAbs % 1000000)))) := by
    intro s hs
    by_cases h0 : a.natAbs % 1000000 = 0
    · rw [if_pos h0, List.append_nil]
      refine Ev.step (f := fun _ => some _) (fun k => ?_) (Ev.now _)
      simp only [spec_DecText.j0]
      rw [habs, Option.bind_some, er, if_pos (by omega)]
    · rw [if_neg h0]
      have h1 := text_loop 6 (a.natAbs % 1000000) (s ++ [46]) (by omega) (by omega) (by simp; omega)
      rw [List.append_assoc] at h1
      refine Ev.step (fun k => ?_) h1
      simp only [spec_DecText.j0]
      rw [habs, Option.bind_some, er, if_neg (by omega), ba_size, if_pos (by omega), show (⟨#[46]⟩ : ByteArray) = ba [46] from rfl, ba_append]
      rfl
  unfold decText
  by_cases g : a < 0
  · rw [if_pos g]
    have ht := tail ([45] ++ decDigits (a.natAbs / 1000000)) (by simp; omega)
    refine ev_use0 edec ht (fun k g1 g2 => ?_)
    unfold spec_DecText.f
    rw [hok, Option.bind_some, if_pos (rfl : true = true), habs, Option.bind_some, eq, g1, Option.bind_some, if_pos g, ba_size, if_pos (by omega), show (⟨#[45]⟩ : ByteArray) = ba [45] from rfl, ba_append]
    exact g2
  · rw [if_neg g, List.nil_append]
    have ht := tail (decDigits (a.natAbs / 1000000)) (by omega)
    refine ev_use0 edec ht (fun k g1 g2 => ?_)
    unfold spec_DecText.f
    rw [hok, Option.bind_some, if_pos (rfl : true = true), habs, Option.bind_some, eq, g1, Option.bind_some, if_neg g]
    exact g2

/-- The program's text. -/
theorem impl_text {a : Int} (h : -9000000000000 ≤ a ∧ a ≤ 9000000000000) : Ev (fun k => impl_DecText.f k a) (ba (decText a)) := by
  have hok : impl_DecOk.f a = some true := by
    unfold impl_DecOk.f impl_between.f
    rw [if_pos (by omega), decide_eq_true (by omega)]; rfl
  have hx : mx a (wrap64 (-a)) = ((a.natAbs : Nat) : Int) := by
    rw [wrap_id (by omega) (by omega)]
    unfold mx
    split <;> omega
  have hm : a.natAbs ≤ 9000000000000 := by omega
  have hl := dec_length (a.natAbs / 1000000)
  have eq : wrap64 (Int.tdiv ((a.natAbs : Nat) : Int) 1000000) = ((a.natAbs / 1000000 : Nat) : Int) := by
    rw [Int.tdiv_eq_ediv_of_nonneg (by omega), wrap_id (by omega) (by omega)]; omega
  have er : Int.tmod ((a.natAbs : Nat) : Int) 1000000 = ((a.natAbs % 1000000 : Nat) : Int) := by
    rw [Int.tmod_eq_emod_of_nonneg (by omega)]; omega
  have itoa : ∀ u : Nat, u ≤ 9000000000000 → strconv_Itoa.f (u : Int) = some (ba (decDigits u)) := fun u hu => by
    unfold strconv_Itoa.f
    rw [if_pos (by omega), itoa_nat]
    rfl
  have i1 := itoa (a.natAbs / 1000000) (by omega)
  have i2 := itoa (1000000 + a.natAbs % 1000000) (by omega)
  rw [dec_million _ (by omega)] at i2
  have ew : wrap64 (1000000 + ((a.natAbs % 1000000 : Nat) : Int)) = ((1000000 + a.natAbs % 1000000 : Nat) : Int) := by rw [wrap_id (by omega) (by omega)]; omega
  have tr : strings_TrimRight.f (ba (pad 6 (a.natAbs % 1000000))) (⟨#[48]⟩ : ByteArray) = some (ba (frc 6 (a.natAbs % 1000000))) := by
    unfold strings_TrimRight.f
    rw [dif_pos (by rfl), if_pos ⟨by decide, by rw [ba_size, pad_length]; omega⟩, ba_data]
    congr 1
    show ba (Lib.trimRightB (pad 6 (a.natAbs % 1000000)) 48) = _
    rw [trim_pad 6 _ (by omega)]
  have hp := frc_length 6 (a.natAbs % 1000000)
  have key : ∀ s : List UInt8, s.length ≤ 1 → Ev (fun k => impl_DecText.j0 k ((a.natAbs : Nat) : Int) (ba s)) (ba (s ++ decDigits (a.natAbs / 1000000) ++ (if a.natAbs % 1000000 = 0 then [] else 46 :: frc 6 (a.natAbs % 1000000)))) := by
    intro s hs
    refine Ev.step (f := fun _ => some _) (fun k => ?_) (Ev.now _)
    simp only [impl_DecText.j0]
    rw [eq, i1, Option.bind_some, ba_append, ba_size, ba_size, if_pos (by omega), er]
    by_cases h0 : a.natAbs % 1000000 = 0
    · rw [if_neg (by omega), if_pos h0, List.append_nil]
    · have es : (ba (49 :: pad 6 (a.natAbs % 1000000))).size = 7 := by rw [ba_size]; simp [pad_length]
      rw [if_pos (by omega), if_neg h0, ew, i2, Option.bind_some, if_pos (by rw [es]; omega), ba_drop, List.drop_one, List.tail_cons, tr, Option.bind_some, ba_size, if_pos (by omega), show (⟨#[46]⟩ : ByteArray) = ba [46] from rfl, ba_append, ba_append, ba_size, ba_size, if_pos (by simp; omega)]
      rfl
  unfold decText
  by_cases g : a < 0
  · rw [if_pos g]
    refine Ev.congr (fun k => ?_) (key [45] (by simp))
    unfold impl_DecText.f
    rw [hok, Option.bind_some, if_pos (rfl : true = true), if_pos g, hx]
    rfl
  · rw [if_neg g]
    refine Ev.congr (fun k => ?_) (key [] (by simp))
    unfold impl_DecText.f
    rw [hok, Option.bind_some, if_pos (rfl : true = true), if_neg g, hx]
    rfl

theorem text_no {a : Int} (h : ¬ (-9000000000000 ≤ a ∧ a ≤ 9000000000000)) : (∀ k, spec_DecText.f k a = some (ba [])) ∧ ∀ k, impl_DecText.f k a = some (ba []) := by
  have hok : spec_DecOk.f a = some false := by
    unfold spec_DecOk.f
    by_cases g : a ≥ -9000000000000
    · rw [if_pos g, decide_eq_false (by omega)]
    · rw [if_neg g]
  have hok2 : impl_DecOk.f a = some false := by
    unfold impl_DecOk.f impl_between.f
    by_cases g : a ≥ -9000000000000
    · rw [if_pos g, decide_eq_false (by omega)]; rfl
    · rw [if_neg g]; rfl
  exact ⟨fun k => by unfold spec_DecText.f; rw [hok]; rfl, fun k => by unfold impl_DecText.f; rw [hok2]; rfl⟩
theorem text_same (a : Int) : ∃ r, Ev (fun k => spec_DecText.f k a) r ∧ Ev (fun k => impl_DecText.f k a) r := by
  by_cases h : -9000000000000 ≤ a ∧ a ≤ 9000000000000
  · exact ⟨_, spec_text h, impl_text h⟩
  · obtain ⟨h1, h2⟩ := text_no h
    exact ⟨_, ⟨0, fun k _ => h1 k⟩, ⟨0, fun k _ => h2 k⟩⟩
end Go.Proofs.YtlemhidllcbadaaDoor.PFnExactTokText
