/- The law's own sums: they stay alive. -/
import Derived.Test.YtegllcjlngdijaaDoorReadText
import Derived.Test.YtegllcjlngdijaaDoorPFnQuotientsx
import Derived.Test.YtegllcjlngdijaaDoorLFnQuotientsTextI
import Derived.Test.YtegllcjlngdijaaDoorLFnQuotientsLooksI
namespace Go.Proofs.YtegllcjlngdijaaDoor.PFnQuotients
set_option linter.unusedVariables false
set_option linter.unusedSimpArgs false
open Go.RowKit Go.Proofs.YtegllcjlngdijaaDoorW.PrintWords Go.Proofs.YtegllcjlngdijaaDoorW.PrintLast Go.Proofs.YtegllcjlngdijaaDoorW.PrintMore Go.Proofs.YtegllcjlngdijaaDoor.XL
theorem text_25 : decText (-2500000) = [45, 50, 46, 53] := by
  have e : (-2500000 : Int).natAbs = 2500000 := by decide
  unfold decText
  rw [e, show (2500000 / 1000000 : Nat) = 2 by decide, dec_small (by omega)]
  rfl
set_option maxRecDepth 100000 in
theorem sums_mul : Ev (fun k => impl_DecMul.f k 1500000 2000000) (3000000, true) := Ev.of (fun k => impl_DecMul.mono _ _ k) (k := 20) (by decide +kernel)
set_option maxRecDepth 100000 in
theorem sums_div : impl_DecDiv.f 1000000 4000000 = some (250000, true) := by decide +kernel
set_option maxRecDepth 100000 in
theorem sums_read : Ev (fun k => impl_ReadDec.f k (⟨#[32, 45, 50, 46, 53, 120]⟩ : ByteArray)) (-2500000, 5) := Ev.of (fun k => impl_ReadDec.mono _ k) (k := 20) (by decide +kernel)
set_option maxRecDepth 100000 in
theorem sums_looks : Ev (fun k => impl_LooksNum.f k (⟨#[51, 32]⟩ : ByteArray)) true := Ev.of (fun k => impl_LooksNum.mono _ k) (k := 20) (by decide +kernel)
theorem alive : Ev (fun k => laws_sums.f k) true := by
  obtain ⟨K1, h1⟩ := sums_mul
  obtain ⟨K2, h2⟩ := sums_read
  obtain ⟨K3, h3⟩ := sums_looks
  obtain ⟨K4, h4⟩ := impl_text (a := -2500000) (by omega)
  rw [text_25] at h4
  refine ⟨K1 + K2 + K3 + K4, fun k hk => ?_⟩
  show laws_sums.f k = _
  unfold laws_sums.f
  rw [(show impl_DecMul.f k 1500000 2000000 = _ from h1 k (by omega)), Option.bind_some, sums_div, Option.bind_some, (show impl_ReadDec.f k _ = _ from h2 k (by omega)), Option.bind_some]
  rw [if_pos (rfl : true = true), if_pos rfl, if_pos (rfl : true = true), if_pos rfl, if_pos rfl, if_pos rfl, (show impl_DecText.f k _ = _ from h4 k (by omega)), Option.bind_some, if_pos (by rw [toList_data, ba_data]), (show impl_LooksNum.f k _ = _ from h3 k (by omega))]
  rfl
end Go.Proofs.YtegllcjlngdijaaDoor.PFnQuotients
