/- DecText: the notation of a decimal, in the program and in the reference. -/
import Derived.Test.YtegllcjlngdijaaDoorXBa
import Derived.Test.YtegllcjlngdijaaDoorPFnQuotientsx
namespace Go.Proofs.YtegllcjlngdijaaDoor.PFnQuotients
set_option linter.unusedVariables false
set_option linter.unusedSimpArgs false
open Go.RowKit Go.Proofs.YtegllcjlngdijaaDoorW.PrintWords Go.Proofs.YtegllcjlngdijaaDoorW.PrintLast Go.Proofs.YtegllcjlngdijaaDoorW.PrintMore Go.Proofs.YtegllcjlngdijaaDoor.XL
open Go.Lib (decDigits)

/-- The program's text. -/
theorem impl_text {a : Int} (h : -9000000000000 ≤ a ∧ a ≤ 9000000000000) : Ev (fun k => impl_DecText.f k a) (ba (decText a)) := by
  have hok : impl_DecOk.f a = some true := by
    unfold impl_DecOk.f impl_between.f
    rw [if_pos (by omega), decide_eq_true (by omega)]; rfl
  have hx : mx a (wrap64 (-a)) = ((a.natAbs : Nat) : Int) := by
    rw [wrap_id (by omega) (by omega)]
    unfold mx
    split <;> omega
  have hm : a.natAbs ≤ 9000000000000 := by omega
  have hl := dec_length (a.natAbs / 1000000)
  have eq : wrap64 (Int.tdiv ((a.natAbs : Nat) : Int) 1000000) = ((a.natAbs / 1000000 : Nat) : Int) := by
    rw [Int.tdiv_eq_ediv_of_nonneg (by omega), wrap_id (by omega) (by omega)]; omega
  have er : Int.tmod ((a.natAbs : Nat) : Int) 1000000 = ((a.natAbs % 1000000 : Nat) : Int) := by
    rw [Int.tmod_eq_emod_of_nonneg (by omega)]; omega
  have itoa : ∀ u : Nat, u ≤ 9000000000000 → strconv_Itoa.f (u : Int) = some (ba (decDigits u)) := fun u hu => by
    unfold strconv_Itoa.f
    rw [if_pos (by omega), itoa_nat]
    rfl
  have i1 := itoa (a.natAbs / 1000000) (by omega)
  have i2 := itoa (1000000 + a.natAbs % 1000000) (by omega)
  rw [dec_million _ (by omega)] at i2
  have ew : wrap64 (1000000 + ((a.natAbs % 1000000 : Nat) : Int)) = ((1000000 + a.natAbs % 1000000 : Nat) : Int) := by rw [wrap_id (by omega) (by omega)]; omega
  have tr : strings_TrimRight.f (ba (pad 6 (a.natAbs % 1000000))) (⟨#[48]⟩ : ByteArray) = some (ba (frc 6 (a.natAbs % 1000000))) := by
    unfold strings_TrimRight.f
    rw [dif_pos (by rfl), if_pos ⟨by decide, by rw [ba_size, pad_length]; omega⟩, ba_data]
    congr 1
    show ba (Lib.trimRightB (pad 6 (a.natAbs % 1000000)) 48) = _
    rw [trim_pad 6 _ (by omega)]
  have hp := frc_length 6 (a.natAbs % 1000000)
  have key : ∀ s : List UInt8, s.length ≤ 1 → Ev (fun k => impl_DecText.j0 k ((a.natAbs : Nat) : Int) (ba s)) (ba (s ++ decDigits (a.natAbs / 1000000) ++ (if a.natAbs % 1000000 = 0 then [] else 46 :: frc 6 (a.natAbs % 1000000)))) := by
    intro s hs
    refine Ev.step (f := fun _ => some _) (fun k => ?_) (Ev.now _)
    simp only [impl_DecText.j0]
    rw [eq, i1, Option.bind_some, ba_append, ba_size, ba_size, if_pos (by omega), er]
    by_cases h0 : a.natAbs % 1000000 = 0
    · rw [if_neg (by omega), if_pos h0, List.append_nil]
    · have es : (ba (49 :: pad 6 (a.natAbs % 1000000))).size = 7 := by rw [ba_size]; simp [pad_length]
      rw [if_pos (by omega), if_neg h0, ew, i2, Option.bind_some, if_pos (by rw [es]; omega), ba_drop, List.drop_one, List.tail_cons, tr, Option.bind_some, ba_size, if_pos (by omega), show (⟨#[46]⟩ : ByteArray) = ba [46] from rfl, ba_append, ba_append, ba_size, ba_size, if_pos (by simp; omega)]
      rfl
  unfold decText
  by_cases g : a < 0
  · rw [if_pos g]
    refine Ev.congr (fun k => ?_) (key [45] (by simp))
    unfold impl_DecText.f
    rw [hok, Option.bind_some, if_pos (rfl : true = true), if_pos g, hx]
    rfl
  · rw [if_neg g]
    refine Ev.congr (fun k => ?_) (key [] (by simp))
    unfold impl_DecText.f
    rw [hok, Option.bind_some, if_pos (rfl : true = true), if_neg g, hx]
    rfl

theorem text_no {a : Int} (h : ¬ (-9000000000000 ≤ a ∧ a ≤ 9000000000000)) : impl_DecOk.f a = some false ∧ ∀ k, impl_DecText.f k a = some (ba []) := by
  have hok2 : impl_DecOk.f a = some false := by
    unfold impl_DecOk.f impl_between.f
    by_cases g : a ≥ -9000000000000
    · rw [if_pos g, decide_eq_false (by omega)]; rfl
    · rw [if_neg g]; rfl
  exact ⟨hok2, fun k => by unfold impl_DecText.f; rw [hok2]; rfl⟩
end Go.Proofs.YtegllcjlngdijaaDoor.PFnQuotients
