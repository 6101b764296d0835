/- A format's places, in the program and in the reference. -/
import Derived.Test.YtlemhidllcbadaaDoorXBa
import Derived.Test.YtlemhidllcbadaaDoorPFnExactPlaceKindsx
namespace Go.Proofs.YtlemhidllcbadaaDoor.PFnExactPlaceKinds
set_option linter.unusedVariables false
set_option linter.unusedSimpArgs false
open Go.RowKit Go.Proofs.YtlemhidllcbadaaDoorW.PrintWords Go.Proofs.YtlemhidllcbadaaDoorW.PrintLast Go.Proofs.YtlemhidllcbadaaDoorW.PrintMore Go.Proofs.YtlemhidllcbadaaDoor.XL

theorem impl_isDigit_eq (c : Int) : impl_isDigit.f c = some (isD c) := by
  unfold impl_isDigit.f isD
  by_cases h : c ≥ 48
  · rw [if_pos h]; simp [show 48 ≤ c from h]
  · rw [if_neg h]; simp [show ¬ 48 ≤ c from h]
theorem spec_l1digit_eq (c : Int) : spec_l1digit.f c = some (isD c) := impl_isDigit_eq c
section
variable {s : ByteArray} (hs : s.size ≤ 140737488351232)
include hs
theorem runD_ev : ∀ (d i c : Nat), i + c + d = s.size → Ev (fun k => impl_run_isDigit.l0 k s (i : Int) (c : Int)) ((c + scan isD s (i + c) : Nat) : Int) := by
  intro d
  induction d with
  | zero =>
    intro i c h
    rw [scan_end isD s (i + c) (by omega)]
    refine Ev.step (f := fun _ => some ((c + 0 : Nat) : Int)) (fun k => ?_) (Ev.now _)
    simp only [impl_run_isDigit.l0]
    rw [wrap_id (by omega) (by omega), if_neg (by omega)]
    simp
  | succ d ih =>
    intro i c h
    have e : ((i : Int) + (c : Int)) = ((i + c : Nat) : Int) := by omega
    cases hp : isD (bt s ((i + c : Nat) : Int)) with
    | true =>
      rw [scan_yes (by omega) hp]
      refine Ev.step (f := fun k => impl_run_isDigit.l0 k s (i : Int) ((c + 1 : Nat) : Int)) (fun k => ?_) ?_
      · simp only [impl_run_isDigit.l0]
        rw [wrap_id (n := (i : Int) + (c : Int)) (by omega) (by omega), e, if_pos (by omega), if_pos (by omega), impl_isDigit_eq, hp]
        simp only [Option.bind_some, if_true]
        rw [wrap_id (by omega) (by omega)]
        rfl
      · have := ih i (c + 1) (by omega)
        rw [show c + 1 + scan isD s (i + (c + 1)) = c + (scan isD s (i + c + 1) + 1) by rw [Nat.add_assoc i c 1]; omega] at this
        exact this
    | false =>
      rw [scan_no hp]
      refine Ev.step (f := fun _ => some ((c + 0 : Nat) : Int)) (fun k => ?_) (Ev.now _)
      simp only [impl_run_isDigit.l0]
      rw [wrap_id (n := (i : Int) + (c : Int)) (by omega) (by omega), e, if_pos (by omega), if_pos (by omega), impl_isDigit_eq, hp]
      simp
theorem runD (i : Nat) (hi : i ≤ s.size) : Ev (fun k => impl_run_isDigit.f k s (i : Int)) ((scan isD s i : Nat) : Int) := by
  have := runD_ev hs (s.size - i) i 0 (by omega)
  rw [Nat.zero_add, Nat.add_zero] at this
  exact this
omit hs in
end
def pk1 (s : ByteArray) (i : Nat) : Nat := if i + 1 < s.size ∧ bt s ((i + 1 : Nat) : Int) = 45 then i + 2 else i + 1
def pk2 (s : ByteArray) (i : Nat) : Nat := pk1 s i + min 2 (scan isD s (pk1 s i))
def pkind (s : ByteArray) (j : Nat) : Int := if j < s.size ∧ (bt s (j : Int) = 100 ∨ bt s (j : Int) = 115) then bt s (j : Int) else 0
def pct (s : ByteArray) (i : Nat) : Prop := i + 1 < s.size ∧ bt s ((i + 1 : Nat) : Int) = 37
instance (s : ByteArray) (i : Nat) : Decidable (pct s i) := by unfold pct; exact inferInstance
theorem pk1_le (s : ByteArray) (i : Nat) (h : i < s.size) : i + 1 ≤ pk1 s i ∧ pk1 s i ≤ s.size := by
  unfold pk1
  split <;> omega
theorem pk2_le (s : ByteArray) (i : Nat) (h : i < s.size) : i + 1 ≤ pk2 s i ∧ pk2 s i ≤ s.size := by
  have h1 := pk1_le s i h
  have h2 := scan_le' isD s (pk1 s i) h1.2
  unfold pk2
  omega
theorem pkind_lt {s : ByteArray} {j : Nat} (h : pkind s j ≠ 0) : j < s.size ∧ (bt s (j : Int) = 100 ∨ bt s (j : Int) = 115) ∧ pkind s j = bt s (j : Int) := by
  unfold pkind at h ⊢
  by_cases g : j < s.size ∧ (bt s (j : Int) = 100 ∨ bt s (j : Int) = 115)
  · rw [if_pos g]; exact ⟨g.1, g.2, rfl⟩
  · rw [if_neg g] at h; exact absurd rfl h
/-- The kinds of the places from i on; none where one has none. -/
def kinds (s : ByteArray) : Nat → Nat → Option (List Int)
  | 0, _ => some []
  | f + 1, i => if i < s.size then (if bt s (i : Int) = 37 then (if pct s i then kinds s f (i + 2) else if pkind s (pk2 s i) = 0 then none else (kinds s f (pk2 s i + 1)).map (pkind s (pk2 s i) :: ·)) else kinds s f (i + 1)) else some []
section
variable {s : ByteArray} (hs : s.size ≤ 500)
include hs
theorem wide_ev (L : Bool) : ∀ (d c j : Nat) (W : Int), c + d = 2 → j ≤ s.size →
    ∃ W' E, Ev (fun k => spec_l9place.l0 k s (j : Int) (c : Int) 0 W L 0) (pkind s (j + min d (scan isD s j)), W', L, E) ∧ (pkind s (j + min d (scan isD s j)) ≠ 0 → E = ((j + min d (scan isD s j) + 1 : Nat) : Int)) := by
  have fin : ∀ (c j : Nat) (W : Int), j ≤ s.size → (c < 2 → j < s.size → isD (bt s (j : Int)) = false) → c ≤ 2 →
      ∃ W' E, Ev (fun k => spec_l9place.l0 k s (j : Int) (c : Int) 0 W L 0) (pkind s j, W', L, E) ∧ (pkind s j ≠ 0 → E = ((j + 1 : Nat) : Int)) := by
    intro c j W hj hd hc
    by_cases hlt : j < s.size
    · have body : ∀ R, (if bt s (j : Int) = 100 then some (bt s (j : Int), W, L, wrap64 ((j : Int) + 1)) else (if bt s (j : Int) = 115 then some (bt s (j : Int), W, L, wrap64 ((j : Int) + 1)) else some ((0 : Int), W, L, (0 : Int)))) = some R → ∀ k, spec_l9place.l0 (k + 1) s (j : Int) (c : Int) 0 W L 0 = some R := by
        intro R hR k
        simp only [spec_l9place.l0]
        by_cases h2 : (c : Int) < 2
        · rw [if_pos h2, if_pos (by omega), if_pos (by omega), spec_l1digit_eq, hd (by omega) hlt, Option.bind_some, if_neg (by simp)]
          exact hR
        · rw [if_neg h2, if_pos (by omega), if_pos (by omega)]
          exact hR
      by_cases g1 : bt s (j : Int) = 100
      · refine ⟨W, ((j + 1 : Nat) : Int), Ev.step (f := fun _ => some _) (fun k => body _ ?_ k) (Ev.now _), fun _ => rfl⟩
        rw [if_pos g1, wrap_nat1 j (by omega)]
        unfold pkind
        rw [if_pos ⟨hlt, .inl g1⟩]
      · by_cases g2 : bt s (j : Int) = 115
        · refine ⟨W, ((j + 1 : Nat) : Int), Ev.step (f := fun _ => some _) (fun k => body _ ?_ k) (Ev.now _), fun _ => rfl⟩
          rw [if_neg g1, if_pos g2, wrap_nat1 j (by omega)]
          unfold pkind
          rw [if_pos ⟨hlt, .inr g2⟩]
        · have hz : pkind s j = 0 := by unfold pkind; rw [if_neg]; rintro ⟨_, z | z⟩; exact g1 z; exact g2 z
          refine ⟨W, 0, Ev.step (f := fun _ => some _) (fun k => body _ ?_ k) (Ev.now _), fun z => absurd hz z⟩
          rw [if_neg g1, if_neg g2, hz]
    · have hz : pkind s j = 0 := by unfold pkind; rw [if_neg (fun z => hlt z.1)]
      refine ⟨W, 0, Ev.step (f := fun _ => some _) (fun k => ?_) (Ev.now _), fun z => absurd hz z⟩
      simp only [spec_l9place.l0]
      rw [hz]
      by_cases h2 : (c : Int) < 2
      · rw [if_pos h2, if_neg (by omega)]
      · rw [if_neg h2, if_neg (by omega)]
  intro d
  induction d with
  | zero =>
    intro c j W hc hj
    rw [Nat.zero_min, Nat.add_zero]
    exact fin c j W hj (fun z => by omega) (by omega)
  | succ d ih =>
    intro c j W hc hj
    by_cases hlt : j < s.size
    · cases hp : isD (bt s (j : Int)) with
      | false =>
        rw [scan_no hp, Nat.min_zero, Nat.add_zero]
        exact fin c j W hj (fun _ _ => hp) (by omega)
      | true =>
        rw [scan_yes hlt hp]
        obtain ⟨W', E, hev, hE⟩ := ih (c + 1) (j + 1) (wrap64 ((wrap64 (10 * W)) + (((bt s (j : Int)) - 48) % 256))) (by omega) (by omega)
        rw [show j + 1 + min d (scan isD s (j + 1)) = j + min (d + 1) (scan isD s (j + 1) + 1) by omega] at hev hE
        refine ⟨W', E, Ev.step (fun k => ?_) hev, hE⟩
        simp only [spec_l9place.l0]
        rw [if_pos (by omega), if_pos (by omega), if_pos (by omega), spec_l1digit_eq, hp, Option.bind_some, if_pos (rfl : true = true), wrap_nat1 j (by omega), wrap_nat1 c (by omega)]
    · rw [scan_end isD s j (by omega), Nat.min_zero, Nat.add_zero]
      exact fin c j W hj (fun _ z => absurd z hlt) (by omega)
theorem place_pct (i : Nat) (h : pct s i) : Ev (fun k => spec_l9place.f k s (i : Int)) (37, 0, false, ((i + 2 : Nat) : Int)) := by
  obtain ⟨h1, h2⟩ := h
  refine ⟨1, fun k hk => ?_⟩
  obtain ⟨k, rfl⟩ : ∃ m, k = m + 1 := ⟨k - 1, by omega⟩
  show spec_l9place.f (k + 1) s (i : Int) = _
  unfold spec_l9place.f
  rw [wrap_nat1 i (by omega), if_pos (by omega), if_pos (by omega), h2]
  simp only [spec_l9place.j0]
  rw [if_pos (by rfl), wrap_nat1 (i + 1) (by omega)]
theorem place_other (i : Nat) (hi : i < s.size) (h : ¬ pct s i) : ∃ W L E, Ev (fun k => spec_l9place.f k s (i : Int)) (pkind s (pk2 s i), W, L, E) ∧ (pkind s (pk2 s i) ≠ 0 → E = ((pk2 s i + 1 : Nat) : Int)) := by
  have h1 := pk1_le s i hi
  by_cases hm : i + 1 < s.size ∧ bt s ((i + 1 : Nat) : Int) = 45
  · have e1 : pk1 s i = i + 2 := by unfold pk1; rw [if_pos hm]
    obtain ⟨W, E, hev, hE⟩ := wide_ev hs true 2 0 (i + 2) 0 (by omega) (by omega)
    unfold pk2
    rw [e1]
    refine ⟨W, true, E, Ev.congr (fun k => ?_) (Ev.step (g := fun k => spec_l9place.j0 k s ((i + 1 : Nat) : Int) false 0 0 false 0) (fun k => ?_) (Ev.step (g := fun k => spec_l9place.j1 k s ((i + 1 : Nat) : Int) true 0 0 false 0) (fun k => ?_) (Ev.step (g := fun k => spec_l9place.j2 k s ((i + 2 : Nat) : Int) 0 0 true 0) (fun k => ?_) hev))), hE⟩
    · unfold spec_l9place.f
      rw [wrap_nat1 i (by omega), if_pos (by omega), if_pos (by omega), hm.2]
      rfl
    · simp only [spec_l9place.j0]
      rw [if_neg (by simp), if_pos (by omega), if_pos (by omega), hm.2]
      rfl
    · simp only [spec_l9place.j1]
      rw [if_pos (by trivial), wrap_nat1 (i + 1) (by omega)]
    · simp only [spec_l9place.j2]
      rfl
  · have e1 : pk1 s i = i + 1 := by unfold pk1; rw [if_neg hm]
    obtain ⟨W, E, hev, hE⟩ := wide_ev hs false 2 0 (i + 1) 0 (by omega) (by omega)
    unfold pk2
    rw [e1]
    refine ⟨W, false, E, Ev.congr (fun k => ?_) (Ev.step (g := fun k => spec_l9place.j0 k s ((i + 1 : Nat) : Int) false 0 0 false 0) (fun k => ?_) (Ev.step (g := fun k => spec_l9place.j1 k s ((i + 1 : Nat) : Int) false 0 0 false 0) (fun k => ?_) (Ev.step (g := fun k => spec_l9place.j2 k s ((i + 1 : Nat) : Int) 0 0 false 0) (fun k => ?_) hev))), hE⟩
    · unfold spec_l9place.f
      rw [wrap_nat1 i (by omega)]
      by_cases hl : i + 1 < s.size
      · rw [if_pos (by omega), if_pos (by omega), show (bt s ((i + 1 : Nat) : Int) == 37) = false from beq_eq_false_iff_ne.mpr (fun z => h ⟨hl, z⟩)]
      · rw [if_neg (by omega)]
    · simp only [spec_l9place.j0]
      rw [if_neg (by simp)]
      by_cases hl : i + 1 < s.size
      · rw [if_pos (by omega), if_pos (by omega), show (bt s ((i + 1 : Nat) : Int) == 45) = false from beq_eq_false_iff_ne.mpr (fun z => hm ⟨hl, z⟩)]
      · rw [if_neg (by omega)]
    · simp only [spec_l9place.j1]
      rw [if_neg (by simp)]
    · simp only [spec_l9place.j2]
      rfl
theorem spec_count : ∀ (f i n : Nat), s.size ≤ i + f → n ≤ i → Ev (fun k => spec_Places.l0 k s (n : Int) (i : Int)) (match kinds s f i with | some L => (((n + L.length : Nat) : Int), true) | none => (0, false)) := by
  intro f
  induction f with
  | zero =>
    intro i n hf hn
    refine Ev.step (f := fun _ => some _) (fun k => ?_) (Ev.now _)
    simp only [spec_Places.l0, kinds]
    rw [if_neg (by omega)]
    simp
  | succ f ih =>
    intro i n hf hn
    simp only [kinds]
    by_cases hlt : i < s.size
    · rw [if_pos hlt]
      by_cases h37 : bt s (i : Int) = 37
      · rw [if_pos h37]
        by_cases hp : pct s i
        · rw [if_pos hp]
          refine ev_use (place_pct hs i hp) (ih (i + 2) n (by omega) (by omega)) (fun k g1 g2 => ?_)
          simp only [spec_Places.l0]
          rw [if_pos (by omega), if_pos (by omega), if_pos h37, g1, Option.bind_some, if_neg (by simp), if_pos (by trivial), wrap_id (n := ((i + 2 : Nat) : Int) - 1) (by omega) (by omega), wrap_id (by omega) (by omega), show ((i + 2 : Nat) : Int) - 1 + 1 = ((i + 2 : Nat) : Int) by omega]
          exact g2
        · rw [if_neg hp]
          obtain ⟨W, L, E, hev, hE⟩ := place_other hs i hlt hp
          have hk2 := pk2_le s i hlt
          by_cases hz : pkind s (pk2 s i) = 0
          · rw [if_pos hz]
            refine ev_use hev (Ev.now (0 : Nat)) (fun k g1 _ => ?_)
            simp only [spec_Places.l0]
            rw [if_pos (by omega), if_pos (by omega), if_pos h37, g1, Option.bind_some, if_pos hz]
          · rw [if_neg hz]
            have hl := pkind_lt hz
            have hne : ¬ pkind s (pk2 s i) = 37 := by rw [hl.2.2]; rcases hl.2.1 with z | z <;> omega
            have hih := ih (pk2 s i + 1) (n + 1) (by omega) (by omega)
            have em : (match (kinds s f (pk2 s i + 1)).map (pkind s (pk2 s i) :: ·) with | some L => (((n + L.length : Nat) : Int), true) | none => ((0 : Int), false)) = (match kinds s f (pk2 s i + 1) with | some L => (((n + 1 + L.length : Nat) : Int), true) | none => (0, false)) := by
              cases kinds s f (pk2 s i + 1) with
              | none => rfl
              | some L =>
                simp only [Option.map_some, List.length_cons]
                rw [show n + (L.length + 1) = n + 1 + L.length by omega]
            rw [em]
            refine ev_use hev hih (fun k g1 g2 => ?_)
            simp only [spec_Places.l0]
            rw [if_pos (by omega), if_pos (by omega), if_pos h37, g1, Option.bind_some, if_neg hz, if_neg hne, hE hz, wrap_id (n := ((pk2 s i + 1 : Nat) : Int) - 1) (by omega) (by omega), wrap_id (n := ((pk2 s i + 1 : Nat) : Int) - 1 + 1) (by omega) (by omega), show ((pk2 s i + 1 : Nat) : Int) - 1 + 1 = ((pk2 s i + 1 : Nat) : Int) by omega, wrap_nat1 n (by omega)]
            exact g2
      · rw [if_neg h37]
        refine Ev.step (fun k => ?_) (ih (i + 1) n (by omega) (by omega))
        simp only [spec_Places.l0]
        rw [if_pos (by omega), if_pos (by omega), if_neg h37, wrap_nat1 i (by omega)]
    · rw [if_neg hlt]
      refine Ev.step (f := fun _ => some _) (fun k => ?_) (Ev.now _)
      simp only [spec_Places.l0]
      rw [if_neg (by omega)]
      simp
/-- The program's parts: their places' kinds. -/
theorem parts_loop : ∀ (f i : Nat) (A : List ByteArray) (P : List S88) (B : List Int), s.size ≤ i + f → A.length ≤ i → P.length ≤ i → B.length ≤ i → i ≤ s.size + 2 →
    ∃ A' P', Ev (fun k => impl_parts.l0 k s A P B (i : Int)) (A', P', (kinds s f i).isSome) ∧ P'.map S88.f0 = (match kinds s f i with | some L => P.map S88.f0 ++ L | none => []) := by
  have stop : ∀ (i : Nat) (A : List ByteArray) (P : List S88) (B : List Int), s.size ≤ i → A.length ≤ i → i ≤ s.size + 2 → Ev (fun k => impl_parts.l0 k s A P B (i : Int)) (A ++ [strOfNums B], P, true) := by
    intro i A P B hi hA hu
    refine Ev.step (f := fun _ => some _) (fun k => ?_) (Ev.now _)
    simp only [impl_parts.l0]
    rw [if_neg (by omega), Option.bind_some, if_pos (by rw [List.length_singleton]; omega)]
  intro f
  induction f with
  | zero =>
    intro i A P B hf hA hP hB hu
    exact ⟨_, P, stop i A P B (by omega) hA hu, by simp [kinds]⟩
  | succ f ih =>
    intro i A P B hf hA hP hB hu
    simp only [kinds]
    by_cases hlt : i < s.size
    · rw [if_pos hlt]
      by_cases h37 : bt s (i : Int) = 37
      · rw [if_pos h37]
        have start : ∀ b, (b = true ↔ pct s i) → ∀ k, impl_parts.l0 (k + 1) s A P B (i : Int) = impl_parts.j1 k s A P B ((i + 1 : Nat) : Int) b := by
          intro b hb k
          simp only [impl_parts.l0]
          rw [if_pos (by omega), if_pos (by omega), if_pos h37, wrap_nat1 i (by omega)]
          by_cases hl : i + 1 < s.size
          · rw [if_pos (by omega), if_pos (by omega), show (bt s ((i + 1 : Nat) : Int) == 37) = b from by
              cases b with
              | true => exact beq_iff_eq.mpr (hb.1 rfl).2
              | false => exact beq_eq_false_iff_ne.mpr (fun z => by have := hb.2 ⟨hl, z⟩; cases this)]
          · rw [if_neg (by omega), show b = false from by
              cases b with
              | true => exact absurd (hb.1 rfl).1 hl
              | false => rfl]
        by_cases hp : pct s i
        · rw [if_pos hp]
          obtain ⟨A', P', hev, hm⟩ := ih (i + 2) A P (B ++ [37]) (by omega) (by omega) (by omega) (by rw [List.length_append]; simp; omega) (by have := hp.1; omega)
          refine ⟨A', P', Ev.step (start true (by simp [hp])) (Ev.step (fun k => ?_) hev), hm⟩
          simp only [impl_parts.j1]
          rw [if_pos (by trivial), Option.bind_some, if_pos (by simp; omega), wrap_nat1 (i + 1) (by omega)]
        · rw [if_neg hp]
          have h1 := pk1_le s i hlt
          have h2 := pk2_le s i hlt
          have hsc := scan_le' isD s (pk1 s i) h1.2
          have h12 : pk1 s i ≤ pk2 s i := by unfold pk2; omega
          have hrun := runD (s := s) (by omega) (pk1 s i) h1.2
          have mid : ∃ b L, (∀ k, impl_parts.j1 (k + 1) s A P B ((i + 1 : Nat) : Int) false = impl_parts.j2 k s A P B ((i + 1 : Nat) : Int) b 0 false 0) ∧ (∀ k, impl_parts.j2 (k + 1) s A P B ((i + 1 : Nat) : Int) b 0 false 0 = impl_parts.j3 k s A P B ((pk1 s i : Nat) : Int) 0 L 0) := by
            by_cases hmn : i + 1 < s.size ∧ bt s ((i + 1 : Nat) : Int) = 45
            · refine ⟨true, true, fun k => ?_, fun k => ?_⟩
              · simp only [impl_parts.j1]
                rw [if_neg (by simp), if_pos (by omega), if_pos (by omega), hmn.2]
                rfl
              · simp only [impl_parts.j2]
                rw [if_pos (by trivial), wrap_nat1 (i + 1) (by omega)]
                unfold pk1
                rw [if_pos hmn]
            · refine ⟨false, false, fun k => ?_, fun k => ?_⟩
              · simp only [impl_parts.j1]
                rw [if_neg (by simp)]
                by_cases hl : i + 1 < s.size
                · rw [if_pos (by omega), if_pos (by omega), show (bt s ((i + 1 : Nat) : Int) == 45) = false from beq_eq_false_iff_ne.mpr (fun z => hmn ⟨hl, z⟩)]
                · rw [if_neg (by omega)]
              · simp only [impl_parts.j2]
                rw [if_neg (by simp)]
                unfold pk1
                rw [if_neg hmn]
          obtain ⟨b, L, m1, m2⟩ := mid
          have hmn2 : mn ((scan isD s (pk1 s i) : Nat) : Int) 2 = ((min 2 (scan isD s (pk1 s i)) : Nat) : Int) := by unfold mn; split <;> omega
          have hat : wrap64 (((pk1 s i : Nat) : Int) + mn ((scan isD s (pk1 s i) : Nat) : Int) 2) = ((pk2 s i : Nat) : Int) := by
            rw [hmn2, wrap_nat _ _ (by omega)]
            rfl
          have ex : ∃ v, strconv_Atoi.f (s.extract (pk1 s i) (pk2 s i)) = some v := by
            unfold strconv_Atoi.f
            rw [if_pos (by rw [size_extract]; unfold pk2; omega)]
            exact ⟨_, rfl⟩
          obtain ⟨v, hv⟩ := ex
          have pre : ∀ k, impl_run_isDigit.f k s ((pk1 s i : Nat) : Int) = some ((scan isD s (pk1 s i) : Nat) : Int) → ∀ R, (if ((pk2 s i : Nat) : Int) ≥ (s.size : Int) then (some (([] : List ByteArray), ([] : List S88), false)) else (if bt s ((pk2 s i : Nat) : Int) = 100 ∨ bt s ((pk2 s i : Nat) : Int) = 115 then impl_parts.l0 k s (A ++ [strOfNums B]) (P ++ [(⟨bt s ((pk2 s i : Nat) : Int), L, v⟩ : S88)]) [] ((pk2 s i + 1 : Nat) : Int) else some (([] : List ByteArray), ([] : List S88), false))) = some R → impl_parts.j3 (k + 1) s A P B ((pk1 s i : Nat) : Int) 0 L 0 = some R := by
            intro k g1 R hR
            simp only [impl_parts.j3]
            rw [g1, Option.bind_some, if_pos (by omega), hat, if_pos (by omega), if_pos (by omega)]
            simp only [Int.toNat_natCast]
            rw [hv, Option.bind_some]
            by_cases hge : ((pk2 s i : Nat) : Int) ≥ (s.size : Int)
            · rw [if_pos hge] at hR ⊢
              exact hR
            · rw [if_neg hge] at hR
              rw [if_neg hge, if_pos (by omega), if_pos (by omega)]
              by_cases g2 : bt s ((pk2 s i : Nat) : Int) = 100
              · rw [if_pos (.inl g2)] at hR
                rw [if_pos g2, Option.bind_some, if_pos (by rw [List.length_singleton]; omega), Option.bind_some, if_pos (by rw [List.length_singleton]; omega), wrap_nat1 (pk2 s i) (by omega)]
                exact hR
              · by_cases g3 : bt s ((pk2 s i : Nat) : Int) = 115
                · rw [if_pos (.inr g3)] at hR
                  rw [if_neg g2, if_pos g3, Option.bind_some, if_pos (by rw [List.length_singleton]; omega), Option.bind_some, if_pos (by rw [List.length_singleton]; omega), wrap_nat1 (pk2 s i) (by omega)]
                  exact hR
                · rw [if_neg (by rintro (z | z); exact g2 z; exact g3 z)] at hR
                  rw [if_neg g2, if_neg g3]
                  exact hR
          by_cases hz : pkind s (pk2 s i) = 0
          · rw [if_pos hz]
            refine ⟨[], [], Ev.step (start false (by simp [hp])) (Ev.step m1 (Ev.step m2 (ev_use hrun (Ev.now (0 : Nat)) (fun k g1 _ => pre k g1 _ ?_)))), rfl⟩
            by_cases hge : ((pk2 s i : Nat) : Int) ≥ (s.size : Int)
            · rw [if_pos hge]; rfl
            · rw [if_neg hge, if_neg]
              · rfl
              · intro z
                unfold pkind at hz
                rw [if_pos ⟨by omega, z⟩] at hz
                rcases z with z | z <;> omega
          · rw [if_neg hz]
            have hl := pkind_lt hz
            obtain ⟨A', P', hev, hm⟩ := ih (pk2 s i + 1) (A ++ [strOfNums B]) (P ++ [(⟨bt s ((pk2 s i : Nat) : Int), L, v⟩ : S88)]) [] (by omega) (by rw [List.length_append]; simp; omega) (by rw [List.length_append]; simp; omega) (by simp) (by omega)
            have es : ((kinds s f (pk2 s i + 1)).map (pkind s (pk2 s i) :: ·)).isSome = (kinds s f (pk2 s i + 1)).isSome := by cases kinds s f (pk2 s i + 1) <;> rfl
            rw [es]
            refine ⟨A', P', Ev.step (start false (by simp [hp])) (Ev.step m1 (Ev.step m2 (ev_use hrun hev (fun k g1 g2 => pre k g1 _ ?_)))), ?_⟩
            · rw [if_neg (by omega), if_pos hl.2.1]
              exact g2
            · rw [hm, hl.2.2]
              cases kinds s f (pk2 s i + 1) with
              | none => rfl
              | some M => simp
      · rw [if_neg h37]
        obtain ⟨A', P', hev, hm⟩ := ih (i + 1) A P (B ++ [bt s (i : Int)]) (by omega) (by omega) (by omega) (by rw [List.length_append]; simp; omega) (by omega)
        refine ⟨A', P', Ev.step (fun k => ?_) hev, hm⟩
        simp only [impl_parts.l0]
        rw [if_pos (by omega), if_pos (by omega), if_neg h37, Option.bind_some, if_pos (by simp; omega), wrap_nat1 i (by omega)]
    · rw [if_neg hlt]
      exact ⟨_, P, stop i A P B (by omega) hA hu, by simp⟩
theorem impl_parts_ok : ∃ A P, Ev (fun k => impl_parts.f k s) (A, P, (kinds s s.size 0).isSome) ∧ P.map S88.f0 = (kinds s s.size 0).getD [] := by
  obtain ⟨A, P, hev, hm⟩ := parts_loop hs s.size 0 [] [] [] (by omega) (by simp) (by simp) (by simp) (by omega)
  refine ⟨A, P, Ev.congr (fun k => ?_) hev, ?_⟩
  · unfold impl_parts.f
    rw [if_neg (by omega)]
    rfl
  · rw [hm]
    cases kinds s s.size 0 <;> rfl
theorem spec_places_ok : Ev (fun k => spec_Places.f k s) (match kinds s s.size 0 with | some L => (((0 + L.length : Nat) : Int), true) | none => (0, false)) := by
  refine Ev.congr (fun k => ?_) (spec_count hs s.size 0 0 (by omega) (by omega))
  unfold spec_Places.f
  rw [if_neg (by omega)]
  rfl
end
end Go.Proofs.YtlemhidllcbadaaDoor.PFnExactPlaceKinds
