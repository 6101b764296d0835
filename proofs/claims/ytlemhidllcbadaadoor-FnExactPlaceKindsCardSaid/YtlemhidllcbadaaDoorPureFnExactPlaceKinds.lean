/- For every text, the program's PlaceKinds and the reference's answer alike. -/
import Derived.Test.YtlemhidllcbadaaDoorPFnExactPlaceKindsx5
import Derived.Test.YtlemhidllcbadaaDoorXLem
import Derived.Test.YtlemhidllcbadaaDoorXBa
import Derived.Test.YtlemhidllcbadaaDoorLFnExactPlaceKindsPlaces
import Derived.Test.YtlemhidllcbadaaDoorLFnExactPlaceKindsPlaceKinds
namespace Go.Proofs.YtlemhidllcbadaaDoor.Pure
set_option linter.unusedVariables false
set_option linter.unusedSimpArgs false
open Go.RowKit Go.Proofs.YtlemhidllcbadaaDoor.PFnExactPlaceKinds Go.Proofs.YtlemhidllcbadaaDoorW.PrintWords Go.Proofs.YtlemhidllcbadaaDoorW.PrintLast Go.Proofs.YtlemhidllcbadaaDoorW.PrintMore Go.Proofs.YtlemhidllcbadaaDoor.XL

theorem FnExactPlaceKinds : laws_FnExactPlaceKinds.Pure := by
  intro s _
  have e0 : strOfNums [] = (⟨#[]⟩ : ByteArray) := ba_ext (by rw [strOfNums_data]; rfl)
  have key : Ev (fun k => laws_FnExactPlaceKinds.f k s) true := by
    by_cases hb : (s.size : Int) > 1048576
    · exact Ev.congr (f := fun _ => some true) (fun k => by unfold laws_FnExactPlaceKinds.f; rw [if_pos hb]) (Ev.now _)
    · have both : ∃ r, Ev (fun k => spec_PlaceKinds.f k s) r ∧ Ev (fun k => impl_PlaceKinds.f k s) r := by
        by_cases hbig : (s.size : Int) > 500
        · refine ⟨(⟨#[]⟩ : ByteArray), ⟨0, fun k _ => ?_⟩, ⟨1, fun k hk => ?_⟩⟩
          · show spec_PlaceKinds.f k s = _
            unfold spec_PlaceKinds.f spec_Places.f
            rw [if_pos hbig, Option.bind_some, if_neg (by simp)]
          · obtain ⟨k, rfl⟩ : ∃ m, k = m + 1 := ⟨k - 1, by omega⟩
            show impl_PlaceKinds.f (k + 1) s = _
            unfold impl_PlaceKinds.f impl_parts.f
            rw [if_pos hbig, Option.bind_some]
            simp only [impl_PlaceKinds.l0]
            rw [if_neg (by simp), e0]
        · obtain ⟨A, P, hev, hm⟩ := impl_parts_ok (s := s) (by omega)
          have hsp := spec_places_ok (s := s) (by omega)
          cases hk : kinds s s.size 0 with
          | none =>
            rw [hk] at hev hm hsp
            have hP : P = [] := by simpa using hm
            subst hP
            refine ⟨(⟨#[]⟩ : ByteArray), ev_use1 hsp (fun k g1 => ?_), ev_use0 hev (impl_kinds [] (by simp) 0 0 [] (by simp) (by simp)) (fun k g1 g2 => ?_)⟩
            · unfold spec_PlaceKinds.f
              rw [g1, Option.bind_some, if_neg (by simp)]
            · unfold impl_PlaceKinds.f
              rw [g1, Option.bind_some]
              exact g2.trans (by rw [List.drop_nil, List.map_nil, List.append_nil, e0])
          | some L =>
            have hL := kinds_length s s.size 0 L hk
            rw [hk] at hev hm hsp
            have hm : P.map S88.f0 = L := hm
            have hP : P.length ≤ 1000000 := by
              have := congrArg List.length hm
              rw [List.length_map] at this
              omega
            have h2 := impl_kinds P hP P.length 0 [] (by omega) (by simp)
            rw [List.drop_zero, hm] at h2
            refine ⟨strOfNums ([] ++ L), ev_use0 hsp (spec_kinds (s := s) (by omega) s.size 0 [] L (by omega) (by simp) hk) (fun k g1 g2 => ?_), ev_use0 hev h2 (fun k g1 g2 => ?_)⟩
            · unfold spec_PlaceKinds.f
              rw [g1, Option.bind_some, if_pos (rfl : true = true)]
              exact g2
            · unfold impl_PlaceKinds.f
              rw [g1, Option.bind_some]
              exact g2
      obtain ⟨r, ⟨K1, g1⟩, ⟨K2, g2⟩⟩ := both
      refine ⟨K1 + K2, fun k hk => ?_⟩
      have e1 : spec_PlaceKinds.f k s = _ := g1 k (by omega)
      have e2 : impl_PlaceKinds.f k s = _ := g2 k (by omega)
      show laws_FnExactPlaceKinds.f k s = _
      unfold laws_FnExactPlaceKinds.f
      rw [if_neg hb, e1, Option.bind_some, e2, Option.bind_some, if_pos rfl]
  exact key.rounds

end Go.Proofs.YtlemhidllcbadaaDoor.Pure
