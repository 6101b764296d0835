/- For every text, the program's Places and the reference's answer alike. -/
import Derived.Test.YtlemhidllcbadaaDoorPFnExactPlacesx5
import Derived.Test.YtlemhidllcbadaaDoorXLem
import Derived.Test.YtlemhidllcbadaaDoorXBa
import Derived.Test.YtlemhidllcbadaaDoorLFnExactPlacesPlaces
namespace Go.Proofs.YtlemhidllcbadaaDoor.Pure
set_option linter.unusedVariables false
set_option linter.unusedSimpArgs false
open Go.RowKit Go.Proofs.YtlemhidllcbadaaDoor.PFnExactPlaces Go.Proofs.YtlemhidllcbadaaDoorW.PrintWords Go.Proofs.YtlemhidllcbadaaDoorW.PrintLast Go.Proofs.YtlemhidllcbadaaDoorW.PrintMore Go.Proofs.YtlemhidllcbadaaDoor.XL

theorem FnExactPlaces : laws_FnExactPlaces.Pure := by
  intro s _
  have key : Ev (fun k => laws_FnExactPlaces.f k s) true := by
    by_cases hb : (s.size : Int) > 1048576
    · exact Ev.congr (f := fun _ => some true) (fun k => by unfold laws_FnExactPlaces.f; rw [if_pos hb]) (Ev.now _)
    · have both : ∃ n ok, Ev (fun k => spec_Places.f k s) (n, ok) ∧ Ev (fun k => impl_Places.f k s) (n, ok) := by
        by_cases hbig : (s.size : Int) > 500
        · refine ⟨0, false, ⟨0, fun k _ => ?_⟩, ⟨0, fun k _ => ?_⟩⟩
          · show spec_Places.f k s = _
            unfold spec_Places.f
            rw [if_pos hbig]
          · show impl_Places.f k s = _
            unfold impl_Places.f impl_parts.f
            rw [if_pos hbig]
            rfl
        · obtain ⟨A, P, hev, hm⟩ := impl_parts_ok (s := s) (by omega)
          have hsp := spec_places_ok (s := s) (by omega)
          cases hk : kinds s s.size 0 with
          | none =>
            rw [hk] at hev hm hsp
            have hP : P = [] := by simpa using hm
            subst hP
            refine ⟨0, false, hsp, ev_use1 hev (fun k g1 => ?_)⟩
            unfold impl_Places.f
            rw [g1]
            rfl
          | some L =>
            rw [hk] at hev hm hsp
            have hP : P.length = L.length := by
              have := congrArg List.length hm
              simpa using this
            refine ⟨_, true, hsp, ev_use1 hev (fun k g1 => ?_)⟩
            unfold impl_Places.f
            rw [g1, Option.bind_some, hP, Nat.zero_add]
            rfl
      obtain ⟨n, ok, ⟨K1, g1⟩, ⟨K2, g2⟩⟩ := both
      refine ⟨K1 + K2, fun k hk => ?_⟩
      have e1 : spec_Places.f k s = _ := g1 k (by omega)
      have e2 : impl_Places.f k s = _ := g2 k (by omega)
      show laws_FnExactPlaces.f k s = _
      unfold laws_FnExactPlaces.f
      rw [if_neg hb, e1, Option.bind_some, e2, Option.bind_some, if_pos rfl, if_neg (by simp)]
  exact key.rounds

end Go.Proofs.YtlemhidllcbadaaDoor.Pure
