/- Fields: what stands between whitespace, in the program and in the reference. -/
import Derived.Test.YtegllcjlngdijaaDoorXBa
import Derived.Lib.FieldsP
import Derived.Lib.DecodeN
import Derived.Test.YtegllcjlngdijaaDoorPFnExactSplitByx
import Derived.Test.YtegllcjlngdijaaDoorLFnExactSplitBySkip
namespace Go.Proofs.YtegllcjlngdijaaDoor.PFnExactSplitBy
set_option linter.unusedVariables false
set_option linter.unusedSimpArgs false
open Go.RowKit Go.Proofs.YtegllcjlngdijaaDoorW.PrintWords Go.Proofs.YtegllcjlngdijaaDoorW.PrintLast Go.Proofs.YtegllcjlngdijaaDoorW.PrintMore Go.Proofs.YtegllcjlngdijaaDoor.XL

/-- The fields' places: from place i on, d places left, a field begun at a or none. -/
def bs (s : ByteArray) : Nat → Nat → Option Nat → List (Nat × Nat)
  | 0, _, none => []
  | 0, i, some a => [(a, i)]
  | d + 1, i, none => if isS (bt s (i : Int)) = true then bs s d (i + 1) none else bs s d (i + 1) (some i)
  | d + 1, i, some a => if isS (bt s (i : Int)) = true then (a, i) :: bs s d (i + 1) none else bs s d (i + 1) (some a)
def fieldsV (s : ByteArray) : List ByteArray := (bs s s.size 0 none).map fun x => s.extract x.1 x.2

theorem bs_run (s : ByteArray) : ∀ (w d i : Nat) (st : Option Nat), 1 ≤ w → (∀ j, j < w → isS (bt s ((i + j : Nat) : Int)) = false) → bs s (d + w) i st = bs s d (i + w) (some (st.getD i)) := by
  intro w
  induction w with
  | zero => intro d i st h; omega
  | succ w ih =>
    intro d i st _ hj
    have h0 := hj 0 (by omega)
    rw [Nat.add_zero] at h0
    have hn : ¬ isS (bt s (i : Int)) = true := by rw [h0]; simp
    have step : bs s (d + (w + 1)) i st = bs s (d + w) (i + 1) (some (st.getD i)) := by
      cases st with
      | none => rw [← Nat.add_assoc]; simp only [bs]; rw [if_neg hn]; rfl
      | some a => rw [← Nat.add_assoc]; simp only [bs]; rw [if_neg hn]; rfl
    rw [step]
    cases w with
    | zero => rfl
    | succ w =>
      rw [ih d (i + 1) (some (st.getD i)) (by omega) (fun j h => by have := hj (j + 1) (by omega); rwa [show i + (j + 1) = i + 1 + j by omega] at this)]
      rw [show i + 1 + (w + 1) = i + (w + 1 + 1) by omega]
      rfl
theorem bs_white (s : ByteArray) : ∀ (d i : Nat), i + d = s.size → bs s d i none = bs s (d - scan isS s i) (i + scan isS s i) none := by
  intro d
  induction d with
  | zero => intro i h; rw [scan_end isS s i (by omega)]; rfl
  | succ d ih =>
    intro i h
    cases hp : isS (bt s (i : Int)) with
    | false => rw [scan_no hp]; rfl
    | true =>
      rw [scan_yes (by omega) hp]
      simp only [bs]
      rw [if_pos hp, ih (i + 1) (by omega)]
      congr 1
      · omega
      · omega

theorem get_bt (s : ByteArray) (i : Nat) (h : i < s.size) : ((s.get! i).toNat : Int) = bt s (i : Int) := by
  unfold bt
  rw [Int.toNat_natCast, dif_pos h]
  congr 1
  show (s.data[i]!).toNat = _
  rw [getElem!_pos s.data i h]
  rfl
theorem dec_facts (s : ByteArray) (pos : Nat) (h : pos < s.size) :
    (bt s (pos : Int) < 128 ∧ ((Utf8.decode s pos).1 : Int) = bt s (pos : Int) ∧ (Utf8.decode s pos).2 = 1) ∨
    (128 ≤ bt s (pos : Int) ∧ 128 ≤ (Utf8.decode s pos).1 ∧ 1 ≤ (Utf8.decode s pos).2 ∧ pos + (Utf8.decode s pos).2 ≤ s.size ∧ ∀ j, j < (Utf8.decode s pos).2 → 128 ≤ bt s ((pos + j : Nat) : Int)) := by
  rw [Lib.decode_at]
  have g0 := get_bt s pos h
  have g1 : pos + 1 < s.size → _ := get_bt s (pos + 1)
  have g2 : pos + 2 < s.size → _ := get_bt s (pos + 2)
  have g3 : pos + 3 < s.size → _ := get_bt s (pos + 3)
  generalize (s.get! pos).toNat = b0 at *
  generalize (s.get! (pos + 1)).toNat = b1 at *
  generalize (s.get! (pos + 2)).toNat = b2 at *
  generalize (s.get! (pos + 3)).toNat = b3 at *
  have one : 128 ≤ b0 → ∀ j, j < 1 → 128 ≤ bt s ((pos + j : Nat) : Int) := fun hb j hj => by
    have : j = 0 := by omega
    subst this
    rw [Nat.add_zero]; omega
  unfold Lib.decodeN
  by_cases c0 : b0 < 128
  · rw [if_pos c0]
    left
    exact ⟨by omega, g0, rfl⟩
  · rw [if_neg c0]
    right
    refine ⟨by omega, ?_⟩
    split
    · rename_i hc
      have k1 := g1 (by omega)
      split
      · refine ⟨by simp only; omega, by simp, by simp only; omega, fun j hj => ?_⟩
        have hj2 : j < 2 := hj
        have : j = 0 ∨ j = 1 := by omega
        rcases this with rfl | rfl
        · rw [Nat.add_zero]; omega
        · omega
      · exact ⟨by simp, by simp, by simp only; omega, one (by omega)⟩
    · split
      · rename_i hc
        have k1 := g1 (by omega)
        have k2 := g2 (by omega)
        split
        · refine ⟨by simp only; omega, by simp, by simp only; omega, fun j hj => ?_⟩
          have hj2 : j < 3 := hj
          have : j = 0 ∨ j = 1 ∨ j = 2 := by omega
          rcases this with rfl | rfl | rfl
          · rw [Nat.add_zero]; omega
          · omega
          · omega
        · exact ⟨by simp, by simp, by simp only; omega, one (by omega)⟩
      · split
        · rename_i hc
          have k1 := g1 (by omega)
          have k2 := g2 (by omega)
          have k3 := g3 (by omega)
          split
          · refine ⟨by simp only; omega, by simp, by simp only; omega, fun j hj => ?_⟩
            have hj2 : j < 4 := hj
            have : j = 0 ∨ j = 1 ∨ j = 2 ∨ j = 3 := by omega
            rcases this with rfl | rfl | rfl | rfl
            · rw [Nat.add_zero]; omega
            · omega
            · omega
            · omega
          · exact ⟨by simp, by simp, by simp only; omega, one (by omega)⟩
        · exact ⟨by simp, by simp, by simp only; omega, one (by omega)⟩

theorem p_eq (x : Nat) : strings_FieldsFunc_Fields_1.p x = isS (x : Int) := by
  unfold strings_FieldsFunc_Fields_1.p impl_Fields_1.f isS
  by_cases h1 : (x : Int) = 32
  · rw [if_pos h1, h1]; rfl
  · rw [if_neg h1]
    by_cases h2 : (x : Int) = 9
    · rw [if_pos h2, h2]; rfl
    · rw [if_neg h2, show ((x : Int) == 32) = false by simpa using h1, show ((x : Int) == 9) = false by simpa using h2]; rfl
theorem isS_big {c : Int} (h : 128 ≤ c) : isS c = false := by
  unfold isS
  rw [show (c == 32) = false by simp; omega, show (c == 9) = false by simp; omega, show (c == 10) = false by simp; omega]; rfl

theorem spans_eq (s : ByteArray) : ∀ (f pos : Nat) (st : Option Nat) (acc : List (Nat × Nat)), pos ≤ s.size → s.size - pos ≤ f →
    Lib.closeSpans s (Lib.spansFromP strings_FieldsFunc_Fields_1.p s f pos st acc) = acc ++ bs s (s.size - pos) pos st := by
  have fin : ∀ (f pos : Nat) (st : Option Nat) (acc : List (Nat × Nat)), pos = s.size → Lib.closeSpans s (Lib.spansFromP strings_FieldsFunc_Fields_1.p s f pos st acc) = acc ++ bs s (s.size - pos) pos st := by
    intro f pos st acc h
    rw [Lib.spansFromP_end _ _ _ _ _ _ (by omega), show s.size - pos = 0 by omega]
    cases st with
    | none => simp [Lib.closeSpans, bs]
    | some a => simp [Lib.closeSpans, bs, h]
  intro f
  induction f with
  | zero => intro pos st acc hp hf; exact fin 0 pos st acc (by omega)
  | succ f ih =>
    intro pos st acc hp hf
    by_cases hlt : pos < s.size
    · unfold Lib.spansFromP
      rw [if_pos hlt]
      rcases dec_facts s pos hlt with ⟨h1, h2, h3⟩ | ⟨h1, h2, h3, h4, h5⟩
      · rw [p_eq, h2, h3]
        rw [show s.size - pos = (s.size - (pos + 1)) + 1 by omega]
        cases hw : isS (bt s (pos : Int)) with
        | true =>
          rw [if_pos (by trivial)]
          cases st with
          | none => simp only [bs]; rw [ih (pos + 1) none acc (by omega) (by omega), if_pos hw]
          | some a => simp only [bs]; rw [ih (pos + 1) none _ (by omega) (by omega), if_pos hw, List.append_assoc]; rfl
        | false =>
          rw [if_neg (by simp)]
          have hw' : ¬ isS (bt s (pos : Int)) = true := by rw [hw]; simp
          cases st with
          | none => simp only [bs]; rw [ih (pos + 1) (some pos) acc (by omega) (by omega), if_neg hw']
          | some a => simp only [bs]; rw [ih (pos + 1) (some a) acc (by omega) (by omega), if_neg hw']
      · rw [p_eq, isS_big (c := ((Utf8.decode s pos).1 : Int)) (by omega), if_neg (by simp)]
        generalize (Utf8.decode s pos).2 = w at *
        have hr := bs_run s w (s.size - (pos + w)) pos st h3 (fun j hj => isS_big (h5 j hj))
        rw [show s.size - (pos + w) + w = s.size - pos by omega] at hr
        rw [hr]
        cases st with
        | none => exact ih (pos + w) (some pos) acc h4 (by omega)
        | some a => exact ih (pos + w) (some a) acc h4 (by omega)
    · exact fin (f + 1) pos st acc (by omega)

theorem go_fields (s : ByteArray) : Lib.goFieldsP strings_FieldsFunc_Fields_1.p s = fieldsV s := by
  unfold Lib.goFieldsP Lib.spansOfP fieldsV
  rw [spans_eq s s.size 0 none [] (by omega) (by omega), List.nil_append, Nat.sub_zero]

theorem bs_length (s : ByteArray) : ∀ (d i : Nat) (st : Option Nat), (bs s d i st).length ≤ d + 1 := by
  intro d
  induction d with
  | zero => intro i st; cases st <;> simp [bs]
  | succ d ih =>
    intro i st
    cases st with
    | none =>
      simp only [bs]
      split
      · have := ih (i + 1) none; omega
      · have := ih (i + 1) (some i); omega
    | some a =>
      simp only [bs]
      split
      · have := ih (i + 1) none; simp; omega
      · have := ih (i + 1) (some a); omega
theorem most_eq (l : List ByteArray) : spec_l8most.f l = some (l.take 50) := by
  unfold spec_l8most.f
  by_cases h : (l.length : Int) > 50
  · rw [if_pos h, if_pos (by omega)]; rfl
  · rw [if_neg h, List.take_of_length_le (by omega)]

def ex (s : ByteArray) (x : Nat × Nat) : ByteArray := s.extract x.1 x.2
section
variable {s : ByteArray} (hs : s.size ≤ 1048576)
include hs
theorem fields_l1 : ∀ (d i a : Nat) (L : List ByteArray), i + d = s.size → a ≤ i → L.length + d < 8000000 →
    Ev (fun k => spec_Fields.l1 k s L (i : Int) (a : Int)) ((L ++ (bs s d i (some a)).map (ex s)).take 50) := by
  have l0_of : ∀ (d i : Nat) (L : List ByteArray), i + d = s.size → L.length + d ≤ 8000000 → (i < s.size → isS (bt s (i : Int)) = false) →
      (0 < d → Ev (fun k => spec_Fields.l1 k s L (i : Int) (i : Int)) ((L ++ (bs s d i (some i)).map (ex s)).take 50)) → Ev (fun k => spec_Fields.l0 k s L (i : Int)) ((L ++ (bs s d i none).map (ex s)).take 50) := by
    intro d i L h hL hw h1
    cases d with
    | zero =>
      refine Ev.step (f := fun _ => some _) (fun k => ?_) (Ev.now _)
      simp only [spec_Fields.l0]
      rw [if_neg (by omega), most_eq]
      simp [bs]
    | succ d =>
      have hw' : ¬ isS (bt s (i : Int)) = true := by rw [hw (by omega)]; simp
      have e : bs s (d + 1) i none = bs s (d + 1) i (some i) := by simp only [bs]; rw [if_neg hw', if_neg hw']
      rw [e]
      refine Ev.step (fun k => ?_) (h1 (by omega))
      simp only [spec_Fields.l0]
      rw [if_pos (by omega)]
  intro d
  induction d using Nat.strongRecOn with
  | ind d ih =>
    intro i a L h ha hL
    have emit : ∀ (q : Nat), q = scan isS s i → (0 < d → 0 < q) → Ev (fun k => spec_Fields.l0 k s (L ++ [s.extract a i]) ((i + q : Nat) : Int)) (((L ++ [s.extract a i]) ++ (bs s (d - q) (i + q) none).map (ex s)).take 50) := by
      intro q hq hpos
      have hle := scan_le' isS s i (by omega)
      refine l0_of (d - q) (i + q) _ (by omega) (by rw [List.length_append]; simp; omega) (fun hi => ?_) (fun hd => ?_)
      · subst hq
        cases hp : isS (bt s ((i + scan isS s i : Nat) : Int)) with
        | false => rfl
        | true =>
          exact absurd (scan_stop isS s i hi) (by rw [hp]; simp)
      · have hq0 := hpos (by omega)
        exact ih (d - q) (by omega) (i + q) (i + q) _ (by omega) (Nat.le_refl _) (by rw [List.length_append]; simp; omega)
    have hsk := skip_spec (s := s) (by omega) d i h
    cases d with
    | zero =>
      have he := emit (scan isS s i) rfl (by omega)
      refine ev_use hsk he (fun k g1 g2 => ?_)
      simp only [spec_Fields.l1]
      rw [if_neg (by omega), if_pos (by omega), if_pos (by omega), if_pos (by omega), if_pos (by omega), g1, Option.bind_some]
      simp only [Int.toNat_natCast]
      rw [g2, scan_end isS s i (by omega)]
      simp [bs, ex]
    | succ d =>
      cases hp : isS (bt s (i : Int)) with
      | true =>
        have hq : 0 < scan isS s i := by rw [scan_yes (by omega) hp]; omega
        have he := emit (scan isS s i) rfl (fun _ => hq)
        have hb : bs s (d + 1) i (some a) = (a, i) :: bs s (d + 1 - scan isS s i) (i + scan isS s i) none := by
          rw [← bs_white s (d + 1) i h]
          simp only [bs]
          rw [if_pos hp, if_pos hp]
        refine ev_use hsk he (fun k g1 g2 => ?_)
        simp only [spec_Fields.l1]
        rw [if_pos (by omega), if_pos (by omega), white_spec, hp, Option.bind_some, if_pos (by trivial), if_pos (by omega), if_pos (by omega), if_pos (by omega), if_pos (by omega), g1, Option.bind_some]
        simp only [Int.toNat_natCast]
        rw [g2, hb]
        simp [ex]
      | false =>
        have hw' : ¬ isS (bt s (i : Int)) = true := by rw [hp]; simp
        have hb : bs s (d + 1) i (some a) = bs s d (i + 1) (some a) := by simp only [bs]; rw [if_neg hw']
        rw [hb]
        refine Ev.step (fun k => ?_) (ih d (by omega) (i + 1) a L (by omega) (by omega) (by omega))
        simp only [spec_Fields.l1]
        rw [if_pos (by omega), if_pos (by omega), white_spec, hp, Option.bind_some, if_neg (by simp), wrap_nat1 i (by omega)]
end
def fieldsR (s : ByteArray) : List ByteArray := if (s.size : Int) > 500 then [] else (fieldsV s).take 50
theorem fieldsR_length (s : ByteArray) : (fieldsR s).length ≤ 50 := by
  unfold fieldsR
  split
  · simp
  · rw [List.length_take]; omega
theorem impl_fields (s : ByteArray) : impl_Fields.f s = some (fieldsR s) := by
  unfold impl_Fields.f fieldsR
  by_cases h : (s.size : Int) > 500
  · rw [if_pos h, if_pos h]
  · rw [if_neg h, if_neg h]
    unfold strings_FieldsFunc_Fields_1.f
    rw [if_pos (by omega), go_fields, Option.bind_some]
    have hm : 0 ≤ mn ((fieldsV s).length : Int) 50 ∧ mn ((fieldsV s).length : Int) 50 ≤ ((fieldsV s).length : Int) := by unfold mn; split <;> omega
    rw [if_pos hm.1, if_pos hm.2]
    congr 1
    by_cases h50 : (fieldsV s).length ≤ 50
    · rw [List.take_of_length_le h50, List.take_of_length_le (by unfold mn; split <;> omega)]
    · congr 1
      unfold mn; split <;> omega
theorem spec_fields (s : ByteArray) : Ev (fun k => spec_Fields.f k s) (fieldsR s) := by
  unfold fieldsR
  by_cases h : (s.size : Int) > 500
  · rw [if_pos h]
    exact ⟨0, fun k _ => by show spec_Fields.f k s = _; unfold spec_Fields.f; rw [if_pos h]⟩
  · rw [if_neg h]
    have hsk := skip_spec (s := s) (by omega) s.size 0 (by omega)
    rw [Nat.zero_add] at hsk
    have hle := scan_le' isS s 0 (by omega)
    rw [Nat.zero_add] at hle
    have hb := bs_white s s.size 0 (by omega)
    rw [Nat.zero_add] at hb
    have e0 : fieldsV s = [] ++ (bs s (s.size - scan isS s 0) (scan isS s 0) none).map (ex s) := by
      unfold fieldsV; rw [hb]; rfl
    have main : Ev (fun k => spec_Fields.l0 k s [] ((scan isS s 0 : Nat) : Int)) (([] ++ (bs s (s.size - scan isS s 0) (scan isS s 0) none).map (ex s)).take 50) := by
      by_cases hi : scan isS s 0 < s.size
      · have hw : isS (bt s ((scan isS s 0 : Nat) : Int)) = false := by
          have := scan_stop isS s 0 (by omega)
          rwa [Nat.zero_add] at this
        have hw' : ¬ isS (bt s ((scan isS s 0 : Nat) : Int)) = true := by rw [hw]; simp
        obtain ⟨d, hd⟩ : ∃ d, s.size - scan isS s 0 = d + 1 := ⟨s.size - scan isS s 0 - 1, by omega⟩
        have e : bs s (d + 1) (scan isS s 0) none = bs s (d + 1) (scan isS s 0) (some (scan isS s 0)) := by simp only [bs]; rw [if_neg hw', if_neg hw']
        rw [hd, e]
        refine Ev.step (fun k => ?_) (fields_l1 (s := s) (by omega) (d + 1) (scan isS s 0) (scan isS s 0) [] (by omega) (Nat.le_refl _) (by simp; omega))
        simp only [spec_Fields.l0]
        rw [if_pos (by omega)]
      · rw [show s.size - scan isS s 0 = 0 by omega]
        refine Ev.step (f := fun _ => some _) (fun k => ?_) (Ev.now _)
        simp only [spec_Fields.l0]
        rw [if_neg (by omega), most_eq]
        simp [bs]
    rw [e0]
    refine ev_use0 hsk main (fun k g1 g2 => ?_)
    unfold spec_Fields.f
    rw [if_neg h, show spec_l1skip.f k s 0 = some ((scan isS s 0 : Nat) : Int) from g1, Option.bind_some]
    exact g2
end Go.Proofs.YtegllcjlngdijaaDoor.PFnExactSplitBy
