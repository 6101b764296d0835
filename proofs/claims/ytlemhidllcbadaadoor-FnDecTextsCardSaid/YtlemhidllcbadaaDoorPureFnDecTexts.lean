/- FnDecTexts: what DecText writes, ReadDec reads back. -/
import Derived.Test.YtlemhidllcbadaaDoorPFnDecTextsx6
import Derived.Test.YtlemhidllcbadaaDoorReadText
import Derived.Test.YtlemhidllcbadaaDoorLFnDecTextsDrawNum
import Derived.Test.YtlemhidllcbadaaDoorLFnDecTextsLooksI
import Derived.Test.YtlemhidllcbadaaDoorLFnDecTextsTextI
import Derived.Test.YtlemhidllcbadaaDoorLFnDecTextsSums
namespace Go.Proofs.YtlemhidllcbadaaDoor.Pure
set_option linter.unusedVariables false
set_option linter.unusedSimpArgs false
open Go.RowKit Go.Proofs.YtlemhidllcbadaaDoor.PFnDecTexts Go.Proofs.YtlemhidllcbadaaDoorW.PrintWords Go.Proofs.YtlemhidllcbadaaDoorW.PrintLast Go.Proofs.YtlemhidllcbadaaDoorW.PrintMore Go.Proofs.YtlemhidllcbadaaDoor.XL

theorem looks_yes {s : ByteArray} {a : Int} {n : Nat} (h : readV s = (a, (n : Int))) (h0 : 0 < n) (h1 : n + scan isS s n = s.size) : looks s = true := by
  unfold looks
  rw [h]
  simp [h0, h1]
theorem FnDecTexts : laws_FnDecTexts.Pure := by
  intro b h1 h2 h3
  obtain ⟨a, K1, e1⟩ := draw_num (b := b) (by omega)
  obtain ⟨K2, e2⟩ := alive
  by_cases h : -9000000000000 ≤ a ∧ a ≤ 9000000000000
  · obtain ⟨K3, e3⟩ := impl_text h
    have hl := text_length a h
    have hs : (ba (decText a)).size = (decText a).length := ba_size _
    have r1 := read_text a h [] [32] (by simp) (by show isD (ub 32) = false; decide) (by show (ub 32 == 46) = false; decide)
    have r2 := read_text a h [] [] (by simp) trivial trivial
    have r3 := read_text a h [9] [32] (by intro c hc; rw [List.mem_singleton] at hc; subst hc; decide) (by show isD (ub 32) = false; decide) (by show (ub 32 == 46) = false; decide)
    have l2 : looks (ba (decText a)) = true := by
      rw [List.nil_append, List.append_nil] at r2
      exact looks_yes r2 (by omega) (by rw [scan_end _ _ _ (by simp; omega), hs]; simp)
    have l3 : looks (ba ([9] ++ (decText a ++ [32]))) = true := by
      have e := scan_mid isS [32] ([9] ++ decText a) [] (by intro c hc; rw [List.mem_singleton] at hc; subst hc; decide) trivial
      rw [List.append_nil, List.append_assoc, List.length_append] at e
      exact looks_yes r3 (by omega) (by rw [e, ba_size]; simp; omega)
    obtain ⟨K4, e4⟩ := impl_read (ba (decText a ++ [32])) (by rw [ba_size, List.length_append]; simp; omega)
    obtain ⟨K5, e5⟩ := impl_looks (ba (decText a)) (by omega)
    obtain ⟨K6, e6⟩ := impl_looks (ba ([9] ++ (decText a ++ [32]))) (by rw [ba_size, List.length_append, List.length_append]; simp; omega)
    rw [List.nil_append] at r1
    rw [r1] at e4
    rw [l2] at e5
    rw [l3] at e6
    refine ⟨K1 + K2 + K3 + K4 + K5 + K6 + 1, ?_⟩
    unfold laws_FnDecTexts.f
    rw [(show spec_DrawDecText.f _ b = _ from e1 (K1 + K2 + K3 + K4 + K5 + K6 + 1) (by omega)), Option.bind_some, (show impl_DecText.f _ a = _ from e3 (K1 + K2 + K3 + K4 + K5 + K6 + 1) (by omega)), Option.bind_some, if_neg (by omega), decide_eq_false (by omega)]
    simp only [laws_FnDecTexts.j0]
    have q4 : impl_ReadDec.f (K1 + K2 + K3 + K4 + K5 + K6) (ba (decText a) ++ (⟨#[32]⟩ : ByteArray)) = some (a, ((([] : List UInt8).length + (decText a).length : Nat) : Int)) := by
      rw [show (⟨#[32]⟩ : ByteArray) = ba [32] from rfl, ba_append]
      exact e4 _ (by omega)
    have q5 : impl_LooksNum.f (K1 + K2 + K3 + K4 + K5 + K6) (ba (decText a)) = some true := e5 _ (by omega)
    have q6 : impl_LooksNum.f (K1 + K2 + K3 + K4 + K5 + K6) (((⟨#[9]⟩ : ByteArray) ++ ba (decText a)) ++ (⟨#[32]⟩ : ByteArray)) = some true := by
      rw [show (⟨#[32]⟩ : ByteArray) = ba [32] from rfl, show (⟨#[9]⟩ : ByteArray) = ba [9] from rfl, ba_append, ba_append, List.append_assoc]
      exact e6 _ (by omega)
    have q7 : ((⟨#[9]⟩ : ByteArray) ++ ba (decText a)).size = 1 + (decText a).length := by
      rw [show (⟨#[9]⟩ : ByteArray) = ba [9] from rfl, ba_append, ba_size, List.length_append]
      rfl
    have q2 : laws_sums.f (K1 + K2 + K3 + K4 + K5 + K6) = some true := e2 _ (by omega)
    rw [if_neg (by simp), if_pos (by omega), q4, Option.bind_some, if_pos rfl, if_pos (by rw [hs]; simp), q5, Option.bind_some, if_pos (rfl : true = true), if_pos (by omega), if_pos (by rw [q7]; omega), q6, Option.bind_some, if_pos (rfl : true = true), q2]
    rfl
  · obtain ⟨hok, ht⟩ := text_no h
    refine ⟨K1 + K2 + 1, ?_⟩
    have q1 : spec_DrawDecText.f (K1 + K2 + 1) b = some a := e1 _ (by omega)
    have q2 : laws_sums.f (K1 + K2) = some true := e2 _ (by omega)
    have key : laws_FnDecTexts.j0 (K1 + K2 + 1) a (ba []) true = some true := by
      simp only [laws_FnDecTexts.j0]
      rw [if_pos trivial, if_pos (by rw [toList_data, ba_data]), hok, Option.bind_some, if_neg (by simp), q2]
      rfl
    unfold laws_FnDecTexts.f
    rw [q1, Option.bind_some, ht, Option.bind_some]
    by_cases g : a < -9000000000000
    · rw [if_pos g]; exact key
    · rw [if_neg g, decide_eq_true (by omega)]; exact key

end Go.Proofs.YtlemhidllcbadaaDoor.Pure
