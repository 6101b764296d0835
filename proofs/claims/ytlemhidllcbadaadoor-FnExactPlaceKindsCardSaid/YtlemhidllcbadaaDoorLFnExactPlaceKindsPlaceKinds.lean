/- A format's kinds of places, in the program and in the reference. -/
import Derived.Test.YtlemhidllcbadaaDoorXBa
import Derived.Test.YtlemhidllcbadaaDoorPFnExactPlaceKindsx
import Derived.Test.YtlemhidllcbadaaDoorLFnExactPlaceKindsPlaces
namespace Go.Proofs.YtlemhidllcbadaaDoor.PFnExactPlaceKinds
set_option linter.unusedVariables false
set_option linter.unusedSimpArgs false
open Go.RowKit Go.Proofs.YtlemhidllcbadaaDoorW.PrintWords Go.Proofs.YtlemhidllcbadaaDoorW.PrintLast Go.Proofs.YtlemhidllcbadaaDoorW.PrintMore Go.Proofs.YtlemhidllcbadaaDoor.XL
theorem spec_kinds {s : ByteArray} (hs : s.size ≤ 500) : ∀ (f i : Nat) (A L : List Int), s.size ≤ i + f → A.length ≤ i → kinds s f i = some L → Ev (fun k => spec_PlaceKinds.l0 k s A (i : Int)) (strOfNums (A ++ L)) := by
  intro f
  induction f with
  | zero =>
    intro i A L hf hA hk
    simp only [kinds, Option.some.injEq] at hk
    subst hk
    refine Ev.step (f := fun _ => some _) (fun k => ?_) (Ev.now _)
    simp only [spec_PlaceKinds.l0]
    rw [if_neg (by omega), List.append_nil]
  | succ f ih =>
    intro i A L hf hA hk
    simp only [kinds] at hk
    by_cases hlt : i < s.size
    · rw [if_pos hlt] at hk
      by_cases h37 : bt s (i : Int) = 37
      · rw [if_pos h37] at hk
        by_cases hp : pct s i
        · rw [if_pos hp] at hk
          refine ev_use (place_pct hs i hp) (ih (i + 2) A L (by omega) (by omega) hk) (fun k g1 g2 => ?_)
          simp only [spec_PlaceKinds.l0]
          rw [if_pos (by omega), if_pos (by omega), if_pos h37, g1, Option.bind_some, if_pos (by trivial), wrap_id (n := ((i + 2 : Nat) : Int) - 1) (by omega) (by omega), wrap_id (by omega) (by omega), show ((i + 2 : Nat) : Int) - 1 + 1 = ((i + 2 : Nat) : Int) by omega]
          exact g2
        · rw [if_neg hp] at hk
          obtain ⟨W, B, E, hev, hE⟩ := place_other hs i hlt hp
          have hk2 := pk2_le s i hlt
          by_cases hz : pkind s (pk2 s i) = 0
          · rw [if_pos hz] at hk; cases hk
          · rw [if_neg hz] at hk
            have hl := pkind_lt hz
            have hne : ¬ pkind s (pk2 s i) = 37 := by rw [hl.2.2]; rcases hl.2.1 with z | z <;> omega
            obtain ⟨M, hM, rfl⟩ := Option.map_eq_some_iff.1 hk
            have hih := ih (pk2 s i + 1) (A ++ [pkind s (pk2 s i)]) M (by omega) (by rw [List.length_append]; simp; omega) hM
            rw [List.append_assoc] at hih
            refine ev_use hev hih (fun k g1 g2 => ?_)
            simp only [spec_PlaceKinds.l0]
            rw [if_pos (by omega), if_pos (by omega), if_pos h37, g1, Option.bind_some, if_neg hne, if_pos (by omega), hE hz, wrap_id (n := ((pk2 s i + 1 : Nat) : Int) - 1) (by omega) (by omega), wrap_id (n := ((pk2 s i + 1 : Nat) : Int) - 1 + 1) (by omega) (by omega), show ((pk2 s i + 1 : Nat) : Int) - 1 + 1 = ((pk2 s i + 1 : Nat) : Int) by omega]
            exact g2
      · rw [if_neg h37] at hk
        refine Ev.step (fun k => ?_) (ih (i + 1) A L (by omega) (by omega) hk)
        simp only [spec_PlaceKinds.l0]
        rw [if_pos (by omega), if_pos (by omega), if_neg h37, wrap_nat1 i (by omega)]
    · rw [if_neg hlt] at hk
      simp only [Option.some.injEq] at hk
      subst hk
      refine Ev.step (f := fun _ => some _) (fun k => ?_) (Ev.now _)
      simp only [spec_PlaceKinds.l0]
      rw [if_neg (by omega), List.append_nil]
theorem impl_kinds (P : List S88) (hP : P.length ≤ 1000000) : ∀ (d j : Nat) (A : List Int), j + d = P.length → A.length ≤ j → Ev (fun k => impl_PlaceKinds.l0 k A P (P.length : Int) (j : Int)) (strOfNums (A ++ (P.drop j).map S88.f0)) := by
  intro d
  induction d with
  | zero =>
    intro j A h hA
    refine Ev.step (f := fun _ => some _) (fun k => ?_) (Ev.now _)
    simp only [impl_PlaceKinds.l0]
    rw [if_neg (by omega), List.drop_of_length_le (by omega), List.map_nil, List.append_nil]
  | succ d ih =>
    intro j A h hA
    have hj : j < P.length := by omega
    have hr : rd_T88 P (j : Int) = P[j] := by
      unfold rd_T88
      rw [Int.toNat_natCast, List.getD_eq_getElem?_getD, List.getElem?_eq_getElem hj]
      rfl
    have hih := ih (j + 1) (A ++ [P[j].f0]) (by omega) (by rw [List.length_append]; simp; omega)
    rw [List.drop_eq_getElem_cons hj, List.map_cons]
    rw [List.append_assoc] at hih
    refine Ev.step (fun k => ?_) hih
    simp only [impl_PlaceKinds.l0]
    rw [if_pos (by omega), if_pos (by omega), if_pos (by omega), if_pos (by omega), hr, wrap_nat1 j (by omega)]
theorem kinds_length (s : ByteArray) : ∀ (f i : Nat) (L : List Int), kinds s f i = some L → L.length ≤ f := by
  intro f
  induction f with
  | zero => intro i L h; simp only [kinds, Option.some.injEq] at h; subst h; simp
  | succ f ih =>
    intro i L h
    simp only [kinds] at h
    split at h
    · split at h
      · split at h
        · have := ih _ L h; omega
        · split at h
          · cases h
          · obtain ⟨M, hM, rfl⟩ := Option.map_eq_some_iff.1 h
            have := ih _ M hM
            simp; omega
      · have := ih _ L h; omega
    · simp only [Option.some.injEq] at h; subst h; simp
end Go.Proofs.YtlemhidllcbadaaDoor.PFnExactPlaceKinds
