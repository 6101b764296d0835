/- Rows of a regular expression's nodes: their weight, their copies, their sameness. -/
import Derived.Test.YtmddcohelcciaaaPFnExactReTextx
import Derived.Test.YtmddcohelcciaaaXLem
namespace Go.Proofs.Ytmddcohelcciaaa.PFnExactReText
set_option linter.unusedVariables false
set_option linter.unusedSimpArgs false
open Go.RowKit Go.Proofs.YtmddcohelcciaaaW.PrintWords Go.Proofs.YtmddcohelcciaaaW.PrintLast Go.Proofs.YtmddcohelcciaaaW.PrintMore Go.Proofs.Ytmddcohelcciaaa.XL

theorem rd_get (L : List Int) (i : Nat) (h : i < L.length) : rd L (i : Int) = L[i] := by
  unfold rd
  rw [Int.toNat_natCast, List.getD_eq_getElem?_getD, List.getElem?_eq_getElem h]
  rfl
theorem rd_L (L : List S37) (i : Nat) (h : i < L.length) : rd_T37 L (i : Int) = L[i] := by
  unfold rd_T37
  rw [Int.toNat_natCast, List.getD_eq_getElem?_getD, List.getElem?_eq_getElem h]
  rfl
theorem rd_I (L : List S39) (i : Nat) (h : i < L.length) : rd_T39 L (i : Int) = L[i] := by
  unfold rd_T39
  rw [Int.toNat_natCast, List.getD_eq_getElem?_getD, List.getElem?_eq_getElem h]
  rfl
def toI (x : S37) : S39 := ⟨x.f0, x.f1, x.f2, x.f3⟩
def wt (x : S39) : Nat := x.f2.size + x.f3.length
def sumW (L : List S39) : Nat := (L.map wt).sum
theorem sumW_drop (L : List S39) (i : Nat) (h : i < L.length) : sumW (L.drop i) = wt L[i] + sumW (L.drop (i + 1)) := by
  unfold sumW
  rw [List.drop_eq_getElem_cons h, List.map_cons, List.sum_cons]
theorem sumW_mem {L : List S39} {x : S39} (h : x ∈ L) : wt x ≤ sumW L := by
  unfold sumW
  induction L with
  | nil => cases h
  | cons y l ih =>
    rw [List.map_cons, List.sum_cons]
    rcases List.mem_cons.1 h with rfl | h
    · omega
    · have := ih h
      omega
theorem sz_row (L : List S37) (hl : L.length ≤ maxLen) (hx : ∀ x ∈ L, x.f2.size ≤ maxLen ∧ x.f3.length ≤ maxLen) (left : Int) (h0 : 0 ≤ left) (h1 : left ≤ 1048576) :
    ∃ r, Ev (fun k => laws_szReNodeS.f k L left) r ∧ (¬ r < 0 → r = left - (L.length : Int) - (sumW (L.map toI) : Nat)) ∧ r ≤ 1048576 := by
  unfold maxLen at hx hl
  have loop : ∀ (d i : Nat) (v : Int), i + d = L.length → 0 ≤ v → v ≤ 1048576 → ∃ r, Ev (fun k => laws_szReNodeS.l0 k L v (i : Int)) r ∧ (¬ r < 0 → r = v - (sumW ((L.map toI).drop i) : Nat)) ∧ r ≤ 1048576 := by
    intro d
    induction d with
    | zero =>
      intro i v h v0 v1
      refine ⟨v, Ev.step (f := fun _ => some _) (fun k => ?_) (Ev.now _), fun _ => ?_, v1⟩
      · simp only [laws_szReNodeS.l0]
        rw [if_neg (by omega)]
      · rw [List.drop_of_length_le (by rw [List.length_map]; omega)]
        simp [sumW]
    | succ d ih =>
      intro i v h v0 v1
      have hi : i < L.length := by omega
      obtain ⟨hs, hk⟩ := hx L[i] (List.getElem_mem hi)
      have e : laws_szReNode.f L[i].f0 L[i].f1 L[i].f2 L[i].f3 v = some (if v - (L[i].f2.size : Int) < 0 then -1 else if v - (L[i].f2.size : Int) - (L[i].f3.length : Int) < 0 then -1 else v - (L[i].f2.size : Int) - (L[i].f3.length : Int)) := by
        unfold laws_szReNode.f
        rw [wrap_id (n := v - (L[i].f2.size : Int)) (by omega) (by omega)]
        by_cases c1 : v - (L[i].f2.size : Int) < 0
        · rw [if_pos c1, if_pos c1]
        · rw [if_neg c1, if_neg c1]
          unfold laws_szIntS.f
          rw [wrap_id (n := v - (L[i].f2.size : Int) - (L[i].f3.length : Int)) (by omega) (by omega)]
          by_cases c2 : v - (L[i].f2.size : Int) - (L[i].f3.length : Int) < 0
          · rw [if_pos c2, if_pos c2, Option.bind_some, if_pos (by omega)]
          · rw [if_neg c2, if_neg c2, Option.bind_some, if_neg c2]
      by_cases hn : v - (L[i].f2.size : Int) - (L[i].f3.length : Int) < 0
      · refine ⟨-1, Ev.step (f := fun _ => some _) (fun k => ?_) (Ev.now _), fun z => absurd (by omega) z, by omega⟩
        simp only [laws_szReNodeS.l0]
        rw [if_pos (by omega), if_pos (by omega), rd_L L i hi, e, Option.bind_some]
        by_cases c1 : v - (L[i].f2.size : Int) < 0
        · rw [if_pos c1, if_pos (by omega)]
        · rw [if_neg c1, if_pos hn, if_pos (by omega)]
      · obtain ⟨r, e2, hr, hr2⟩ := ih (i + 1) (v - (L[i].f2.size : Int) - (L[i].f3.length : Int)) (by omega) (by omega) (by omega)
        refine ⟨r, Ev.step (fun k => ?_) e2, fun z => ?_, hr2⟩
        · simp only [laws_szReNodeS.l0]
          rw [if_pos (by omega), if_pos (by omega), rd_L L i hi, e, Option.bind_some, if_neg (c := v - (L[i].f2.size : Int) < 0) (by omega), if_neg hn, if_neg hn, wrap_nat1 i (by omega)]
        · rw [hr z, sumW_drop _ i (by rw [List.length_map]; exact hi), List.getElem_map]
          unfold wt toI
          simp only
          omega
  by_cases hn : left - (L.length : Int) < 0
  · refine ⟨-1, ⟨0, fun k _ => ?_⟩, fun z => absurd (by omega) z, by omega⟩
    show laws_szReNodeS.f k L left = _
    unfold laws_szReNodeS.f
    rw [wrap_id (by omega) (by omega), if_pos hn]
  · obtain ⟨r, e, hr, hr2⟩ := loop L.length 0 (left - (L.length : Int)) (by omega) (by omega) (by omega)
    rw [List.drop_zero] at hr
    refine ⟨r, Ev.congr (fun k => ?_) e, hr, hr2⟩
    unfold laws_szReNodeS.f
    rw [wrap_id (by omega) (by omega), if_neg hn]
    rfl
theorem to_ints (L : List Int) (hl : L.length ≤ 1048576) : Ev (fun k => laws_toIntS.f k L) L := by
  have loop : ∀ (d i : Nat) (M : List Int), i + d = L.length → M.length = L.length → M.take i = L.take i → Ev (fun k => laws_toIntS.l0 k L M (i : Int)) L := by
    intro d
    induction d with
    | zero =>
      intro i M h hM ht
      have e : M = L := by
        rw [List.take_of_length_le (by omega), List.take_of_length_le (by omega)] at ht
        exact ht
      subst e
      refine Ev.step (f := fun _ => some _) (fun k => ?_) (Ev.now _)
      simp only [laws_toIntS.l0]
      rw [if_neg (by omega)]
    | succ d ih =>
      intro i M h hM ht
      have hi : i < L.length := by omega
      have hset : (M.set i L[i]).take (i + 1) = L.take (i + 1) := by
        rw [List.take_succ_eq_append_getElem (by rw [List.length_set]; omega), List.take_set_of_le (Nat.le_refl _), List.getElem_set_self, ht, List.take_succ_eq_append_getElem hi]
      refine Ev.step (fun k => ?_) (ih (i + 1) (M.set i L[i]) (by omega) (by rw [List.length_set]; exact hM) hset)
      simp only [laws_toIntS.l0]
      rw [if_pos (by omega), if_pos (by omega), if_pos (by omega), rd_get L i hi, wrap_nat1 i (by omega)]
      rfl
  refine Ev.congr (fun k => ?_) (loop L.length 0 (List.replicate L.length 0) (by omega) (by simp) (by simp))
  unfold laws_toIntS.f
  rw [if_pos (by omega), if_pos (by simp; omega)]
  rfl
theorem to_row (L : List S37) (hl : L.length ≤ 1048576) (hx : ∀ x ∈ L, x.f3.length ≤ 1048576) : Ev (fun k => laws_toReNodeS.f k L) (L.map toI) := by
  have loop : ∀ (d i : Nat) (M : List S39), i + d = L.length → M.length = L.length → M.take i = (L.map toI).take i → Ev (fun k => laws_toReNodeS.l0 k L M (i : Int)) (L.map toI) := by
    intro d
    induction d with
    | zero =>
      intro i M h hM ht
      have e : M = L.map toI := by
        rw [List.take_of_length_le (by omega), List.take_of_length_le (by rw [List.length_map]; omega)] at ht
        exact ht
      subst e
      refine Ev.step (f := fun _ => some _) (fun k => ?_) (Ev.now _)
      simp only [laws_toReNodeS.l0]
      rw [if_neg (by omega)]
    | succ d ih =>
      intro i M h hM ht
      have hi : i < L.length := by omega
      have hset : (M.set i (toI L[i])).take (i + 1) = (L.map toI).take (i + 1) := by
        rw [List.take_succ_eq_append_getElem (by rw [List.length_set]; omega), List.take_set_of_le (Nat.le_refl _), List.getElem_set_self, ht, List.take_succ_eq_append_getElem (by rw [List.length_map]; exact hi), List.getElem_map]
      refine ev_use (to_ints L[i].f3 (hx _ (List.getElem_mem hi))) (ih (i + 1) (M.set i (toI L[i])) (by omega) (by rw [List.length_set]; exact hM) hset) (fun k e1 e2 => ?_)
      simp only [laws_toReNodeS.l0]
      rw [if_pos (by omega), if_pos (by omega), rd_L L i hi]
      unfold laws_toReNode.f
      rw [e1, Option.bind_some, Option.bind_some, if_pos (by omega), wrap_nat1 i (by omega)]
      exact e2
  refine Ev.congr (fun k => ?_) (loop L.length 0 (List.replicate L.length z39) (by omega) (by simp) (by simp))
  unfold laws_toReNodeS.f
  rw [if_pos (by omega), if_pos (by simp; omega)]
  rfl
theorem eq_ints (L : List Int) (hL : L.length ≤ 1048576) : Ev (fun k => laws_eqIntS.f k L L) true := by
  have loop : ∀ (d i : Nat), i + d = L.length → Ev (fun k => laws_eqIntS.l0 k L L (i : Int)) true := by
    intro d
    induction d with
    | zero =>
      intro i h
      refine Ev.step (f := fun _ => some _) (fun k => ?_) (Ev.now _)
      simp only [laws_eqIntS.l0]
      rw [if_neg (by omega)]
    | succ d ih =>
      intro i h
      refine Ev.step (fun k => ?_) (ih (i + 1) (by omega))
      simp only [laws_eqIntS.l0]
      rw [if_pos (by omega), if_pos (by omega), if_pos (by omega), if_pos trivial, wrap_nat1 i (by omega)]
  refine Ev.congr (fun k => ?_) (loop L.length 0 (by omega))
  unfold laws_eqIntS.f
  rw [if_pos rfl]
  rfl
theorem eq_row (L : List S39) (hL : L.length ≤ 1048576) (hx : ∀ x ∈ L, x.f3.length ≤ 1048576) : Ev (fun k => laws_eqReNodeS.f k L L) true := by
  have loop : ∀ (d i : Nat), i + d = L.length → Ev (fun k => laws_eqReNodeS.l0 k L L (i : Int)) true := by
    intro d
    induction d with
    | zero =>
      intro i h
      refine Ev.step (f := fun _ => some _) (fun k => ?_) (Ev.now _)
      simp only [laws_eqReNodeS.l0]
      rw [if_neg (by omega)]
    | succ d ih =>
      intro i h
      have hi : i < L.length := by omega
      refine ev_use (eq_ints L[i].f3 (hx _ (List.getElem_mem hi))) (ih (i + 1) (by omega)) (fun k e1 e2 => ?_)
      simp only [laws_eqReNodeS.l0]
      rw [if_pos (by omega), if_pos (by omega), if_pos (by omega), rd_I L i hi]
      unfold laws_eqReNode.f
      rw [if_pos rfl, if_neg (by simp), if_pos rfl, e1, Option.bind_some, if_pos (rfl : true = true), Option.bind_some, if_pos (rfl : true = true), wrap_nat1 i (by omega)]
      exact e2
  refine Ev.congr (fun k => ?_) (loop L.length 0 (by omega))
  unfold laws_eqReNodeS.f
  rw [if_pos rfl]
  rfl
end Go.Proofs.Ytmddcohelcciaaa.PFnExactReText
