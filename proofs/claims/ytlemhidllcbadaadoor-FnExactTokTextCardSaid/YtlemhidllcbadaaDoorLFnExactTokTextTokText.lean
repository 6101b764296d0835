/- TokText: the source form of a token, in the program and in the reference. -/
import Derived.Test.YtlemhidllcbadaaDoorXBa
import Derived.Test.YtlemhidllcbadaaDoorPFnExactTokTextx
import Derived.Test.YtlemhidllcbadaaDoorLFnExactTokTextDecText
namespace Go.Proofs.YtlemhidllcbadaaDoor.PFnExactTokText
set_option linter.unusedVariables false
set_option linter.unusedSimpArgs false
open Go.RowKit Go.Proofs.YtlemhidllcbadaaDoorW.PrintWords Go.Proofs.YtlemhidllcbadaaDoorW.PrintLast Go.Proofs.YtlemhidllcbadaaDoorW.PrintMore Go.Proofs.YtlemhidllcbadaaDoor.XL

def quo (c : Int) : List Int := if c = 10 then [92, 110] else if c = 9 then [92, 116] else if c = 34 then [92, c] else if c = 92 then [92, c] else [c]
theorem quo_le (c : Int) : (quo c).length ≤ 2 := by
  unfold quo
  repeat' split
  all_goals simp
def quos (s : ByteArray) : Nat → Nat → List Int
  | 0, _ => []
  | d + 1, i => quo (bt s (i : Int)) ++ quos s d (i + 1)

theorem idx4 : ∀ n : Fin 256, strings_IndexByte.f (⟨#[10, 9, 34, 92]⟩ : ByteArray) (n.val : Int) = some (if (n.val : Int) = 10 then 0 else if (n.val : Int) = 9 then 1 else if (n.val : Int) = 34 then 2 else if (n.val : Int) = 92 then 3 else -1) := by decide +kernel
theorem index_four {c : Int} (h0 : 0 ≤ c) (h1 : c < 256) : strings_IndexByte.f (⟨#[10, 9, 34, 92]⟩ : ByteArray) c = some (if c = 10 then 0 else if c = 9 then 1 else if c = 34 then 2 else if c = 92 then 3 else -1) := by
  obtain ⟨n, rfl⟩ := Int.eq_ofNat_of_zero_le h0
  exact idx4 ⟨n, by omega⟩

section
variable {s : ByteArray} (hs : s.size ≤ 1048576)
include hs
theorem spec_quote_loop : ∀ (d i : Nat) (acc : List Int), i + d = s.size → acc.length + 2 * d ≤ 3000000 →
    Ev (fun k => spec_l3quote.l0 k s acc (i : Int)) (strOfNums (acc ++ quos s d i ++ [34])) := by
  intro d
  induction d with
  | zero =>
    intro i acc h ha
    refine Ev.step (f := fun _ => some _) (fun k => ?_) (Ev.now _)
    simp only [spec_l3quote.l0]
    rw [if_neg (by omega), if_pos (by omega)]
    simp [quos]
  | succ d ih =>
    intro i acc h ha
    have hq := quo_le (bt s (i : Int))
    have hih := ih (i + 1) (acc ++ quo (bt s (i : Int))) (by omega) (by rw [List.length_append]; omega)
    have eqq : acc ++ quos s (d + 1) i ++ [34] = acc ++ quo (bt s (i : Int)) ++ quos s d (i + 1) ++ [34] := by simp [quos]
    rw [eqq]
    refine Ev.step (fun k => ?_) hih
    simp only [spec_l3quote.l0]
    rw [if_pos (by omega), if_pos (by omega), wrap_nat1 i (by omega)]
    simp only [Option.bind_some]
    unfold quo
    by_cases h10 : bt s (i : Int) = 10
    · rw [if_pos h10, if_pos h10, if_pos (by simp; omega)]
    · rw [if_neg h10, if_neg h10]
      by_cases h9 : bt s (i : Int) = 9
      · rw [if_pos h9, if_pos h9, if_pos (by simp; omega)]
      · rw [if_neg h9, if_neg h9]
        by_cases h34 : bt s (i : Int) = 34
        · rw [if_pos h34, if_pos h34, if_pos (by simp; omega)]
        · rw [if_neg h34, if_neg h34]
          by_cases h92 : bt s (i : Int) = 92
          · rw [if_pos h92, if_pos h92, if_pos (by simp; omega)]
          · rw [if_neg h92, if_neg h92, if_pos (by omega)]
theorem impl_quote_loop : ∀ (d i : Nat) (acc : List Int), i + d = s.size → acc.length + 2 * d ≤ 3000000 →
    Ev (fun k => impl_quotedText.l0 k s acc (s.size : Int) (i : Int)) (strOfNums (acc ++ quos s d i ++ [34])) := by
  intro d
  induction d with
  | zero =>
    intro i acc h ha
    refine Ev.step (f := fun _ => some _) (fun k => ?_) (Ev.now _)
    simp only [impl_quotedText.l0]
    rw [if_neg (by omega), if_pos (by omega)]
    simp [quos]
  | succ d ih =>
    intro i acc h ha
    have hq := quo_le (bt s (i : Int))
    have hih := ih (i + 1) (acc ++ quo (bt s (i : Int))) (by omega) (by rw [List.length_append]; omega)
    have eqq : acc ++ quos s (d + 1) i ++ [34] = acc ++ quo (bt s (i : Int)) ++ quos s d (i + 1) ++ [34] := by simp [quos]
    rw [eqq]
    refine Ev.step (fun k => ?_) hih
    simp only [impl_quotedText.l0]
    rw [if_pos (by omega), if_pos (by omega), if_pos (by omega), wrap_nat1 i (by omega), index_four (bt_ge _ _) (bt_lt _ _)]
    simp only [Option.bind_some]
    unfold quo
    by_cases h10 : bt s (i : Int) = 10
    · rw [if_pos h10, if_pos h10, if_pos (by omega), if_pos (by omega), if_pos (by omega), if_pos (by simp; omega)]
      rfl
    · rw [if_neg h10, if_neg h10]
      by_cases h9 : bt s (i : Int) = 9
      · rw [if_pos h9, if_pos h9, if_pos (by omega), if_pos (by omega), if_pos (by omega), if_pos (by simp; omega)]
        rfl
      · rw [if_neg h9, if_neg h9]
        by_cases h34 : bt s (i : Int) = 34
        · rw [if_pos h34, if_pos h34, if_pos (by omega), if_pos (by omega), if_pos (by omega), if_pos (by simp; omega), h34]
          rfl
        · rw [if_neg h34, if_neg h34]
          by_cases h92 : bt s (i : Int) = 92
          · rw [if_pos h92, if_pos h92, if_pos (by omega), if_pos (by omega), if_pos (by omega), if_pos (by simp; omega), h92]
            rfl
          · rw [if_neg h92, if_neg h92, if_neg (by omega), if_pos (by omega)]
theorem quote_same : ∃ r, Ev (fun k => spec_l3quote.f k s) r ∧ Ev (fun k => impl_quotedText.f k s) r :=
  ⟨_, spec_quote_loop hs s.size 0 [34] (by omega) (by simp; omega), impl_quote_loop hs s.size 0 [34] (by omega) (by simp; omega)⟩

theorem tok_same (t n p : Int) : ∃ r, Ev (fun k => spec_TokText.f k t s n p) r ∧ Ev (fun k => impl_TokText.f k t s n p) r := by
  by_cases h1 : t = 1
  · obtain ⟨r, g1, g2⟩ := text_same n
    refine ⟨r, ev_use1 g1 (fun k e => ?_), ev_use1 g2 (fun k e => ?_)⟩
    · unfold spec_TokText.f; rw [if_pos h1, e]; rfl
    · unfold impl_TokText.f; rw [if_pos h1, e]; rfl
  · by_cases h2 : t = 2
    · obtain ⟨r, g1, g2⟩ := quote_same hs
      refine ⟨r, ev_use1 g1 (fun k e => ?_), ev_use1 g2 (fun k e => ?_)⟩
      · unfold spec_TokText.f; rw [if_neg h1, if_pos h2, e]; rfl
      · unfold impl_TokText.f; rw [if_neg h1, if_pos h2, e]; rfl
    · by_cases h3 : t = 3
      · have e1 : ((⟨#[47]⟩ : ByteArray) ++ s).size = 1 + s.size := by rw [ByteArray.size_append]; rfl
        refine ⟨((⟨#[47]⟩ : ByteArray) ++ s) ++ (⟨#[47]⟩ : ByteArray), ⟨0, fun k _ => ?_⟩, ⟨0, fun k _ => ?_⟩⟩
        · show spec_TokText.f k t s n p = _
          unfold spec_TokText.f; rw [if_neg h1, if_neg h2, if_pos h3, if_pos (by omega), if_pos (by omega)]
        · show impl_TokText.f k t s n p = _
          unfold impl_TokText.f; rw [if_neg h1, if_neg h2, if_pos h3, if_pos (by omega), if_pos (by omega)]
      · refine ⟨if t = 4 ∨ t = 5 ∨ t = 6 ∨ t = 7 then s else (⟨#[]⟩ : ByteArray), ⟨0, fun k _ => ?_⟩, ⟨0, fun k _ => ?_⟩⟩
        · show spec_TokText.f k t s n p = _
          unfold spec_TokText.f; rw [if_neg h1, if_neg h2, if_neg h3]
          by_cases h4 : t = 4
          · rw [if_pos h4, if_pos (by omega)]
          · by_cases h5 : t = 5
            · rw [if_neg h4, if_pos h5, if_pos (by omega)]
            · by_cases h6 : t = 6
              · rw [if_neg h4, if_neg h5, if_pos h6, if_pos (by omega)]
              · by_cases h7 : t = 7
                · rw [if_neg h4, if_neg h5, if_neg h6, if_pos h7, if_pos (by omega)]
                · rw [if_neg h4, if_neg h5, if_neg h6, if_neg h7, if_neg (by omega)]
        · show impl_TokText.f k t s n p = _
          unfold impl_TokText.f; rw [if_neg h1, if_neg h2, if_neg h3]
          by_cases h4 : t = 4
          · rw [if_pos h4, if_pos (by omega)]
          · by_cases h5 : t = 5
            · rw [if_neg h4, if_pos h5, if_pos (by omega)]
            · by_cases h6 : t = 6
              · rw [if_neg h4, if_neg h5, if_pos h6, if_pos (by omega)]
              · by_cases h7 : t = 7
                · rw [if_neg h4, if_neg h5, if_neg h6, if_pos h7, if_pos (by omega)]
                · rw [if_neg h4, if_neg h5, if_neg h6, if_neg h7, if_neg (by omega)]
end
end Go.Proofs.YtlemhidllcbadaaDoor.PFnExactTokText
