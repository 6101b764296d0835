/- A regular expression's nodes: how often each is used. -/
import Derived.Test.YtmddcohelcciaaaPFnExactReTextx
import Derived.Test.YtmddcohelcciaaaLFnExactReTextReRow
import Derived.Test.YtmddcohelcciaaaLFnExactReTextReOk
import Derived.Test.YtmddcohelcciaaaXLem
namespace Go.Proofs.Ytmddcohelcciaaa.PFnExactReText
set_option linter.unusedVariables false
set_option linter.unusedSimpArgs false
open Go.RowKit Go.Proofs.YtmddcohelcciaaaW.PrintWords Go.Proofs.YtmddcohelcciaaaW.PrintLast Go.Proofs.YtmddcohelcciaaaW.PrintMore Go.Proofs.Ytmddcohelcciaaa.XL

/-- Whether all of a row are one, by a function's own walk. -/
theorem index_one (X : List Int) (hX : X.length ≤ 1048576) : ∀ (d i : Nat), i + d = X.length → ∃ r : Int, Ev (fun k => slices_IndexFunc_int_int_ReOk_1.l0 k X (X.length : Int) (i : Int)) r ∧ (r ≥ 0 ↔ ∃ j, ∃ h : j < X.length, i ≤ j ∧ X[j] ≠ 1) := by
  intro d
  induction d with
  | zero =>
    intro i h
    refine ⟨-1, Ev.step (f := fun _ => some _) (fun k => ?_) (Ev.now _), ⟨fun z => absurd z (by omega), fun ⟨j, hj, hi, _⟩ => absurd hj (by omega)⟩⟩
    simp only [slices_IndexFunc_int_int_ReOk_1.l0]
    rw [if_neg (by omega)]
  | succ d ih =>
    intro i h
    have hi : i < X.length := by omega
    by_cases c : X[i] = 1
    · obtain ⟨r, e, hr⟩ := ih (i + 1) (by omega)
      refine ⟨r, Ev.step (fun k => ?_) e, hr.trans ⟨fun ⟨j, hj, hij, hn⟩ => ⟨j, hj, by omega, hn⟩, fun ⟨j, hj, hij, hn⟩ => ⟨j, hj, ?_, hn⟩⟩⟩
      · simp only [slices_IndexFunc_int_int_ReOk_1.l0]
        rw [if_pos (by omega), if_pos (by omega), if_pos (by omega), rd_get X i hi]
        unfold impl_ReOk_1.f
        rw [Option.bind_some, if_neg (by simp [c]), wrap_nat1 i (by omega)]
      · rcases Nat.lt_or_ge i j with z | z
        · omega
        · obtain rfl : i = j := by omega
          exact absurd c hn
    · refine ⟨(i : Int), Ev.step (f := fun _ => some _) (fun k => ?_) (Ev.now _), ⟨fun _ => ⟨i, hi, Nat.le_refl _, c⟩, fun _ => by omega⟩⟩
      simp only [slices_IndexFunc_int_int_ReOk_1.l0]
      rw [if_pos (by omega), if_pos (by omega), if_pos (by omega), rd_get X i hi]
      unfold impl_ReOk_1.f
      rw [Option.bind_some, if_pos (by simp [c])]
theorem spec_one (L : List S39) (M : List Int) (hM : M.length = L.length) (hL : L.length ≤ 1048576) : ∀ (d i : Nat), i + d + 1 = L.length → Ev (fun k => spec_ReOk.l2 k L M (i : Int)) (decide (∀ j, ∀ h : j < M.length, i ≤ j → j + 1 < L.length → M[j] = 1)) := by
  intro d
  induction d with
  | zero =>
    intro i h
    rw [decide_eq_true (fun j hj hi h2 => absurd h2 (by omega))]
    refine Ev.step (f := fun _ => some _) (fun k => ?_) (Ev.now _)
    simp only [spec_ReOk.l2]
    rw [wrap_nat1 i (by omega), if_neg (by omega)]
  | succ d ih =>
    intro i h
    have hi : i < M.length := by omega
    by_cases c : M[i] = 1
    · have e : decide (∀ j, ∀ h : j < M.length, i ≤ j → j + 1 < L.length → M[j] = 1) = decide (∀ j, ∀ h : j < M.length, i + 1 ≤ j → j + 1 < L.length → M[j] = 1) := by
        refine decide_eq_decide.2 ⟨fun z j hj h1 h2 => z j hj (by omega) h2, fun z j hj h1 h2 => ?_⟩
        rcases Nat.lt_or_ge i j with q | q
        · exact z j hj (by omega) h2
        · obtain rfl : i = j := by omega
          exact c
      rw [e]
      refine Ev.step (fun k => ?_) (ih (i + 1) (by omega))
      simp only [spec_ReOk.l2]
      rw [wrap_nat1 i (by omega), if_pos (by omega), if_pos (by omega), if_pos (by omega), rd_get M i hi, if_pos c]
    · rw [decide_eq_false (fun z => c (z i hi (Nat.le_refl _) (by omega)))]
      refine Ev.step (f := fun _ => some _) (fun k => ?_) (Ev.now _)
      simp only [spec_ReOk.l2]
      rw [wrap_nat1 i (by omega), if_pos (by omega), if_pos (by omega), if_pos (by omega), rd_get M i hi, if_neg c]

section
variable {L : List S39} (hL : L.length ≤ 200) (hp : 1 ≤ L.length) (hs : ∀ x ∈ L, x.f2.size ≤ 1048576 ∧ x.f3.length ≤ 1048576)
def kidsN (L : List S39) : Nat := (L.map fun x => x.f3.length).sum
theorem kidsN_drop (L : List S39) (i : Nat) (h : i < L.length) : kidsN (L.drop i) = L[i].f3.length + kidsN (L.drop (i + 1)) := by
  unfold kidsN
  rw [List.drop_eq_getElem_cons h, List.map_cons, List.sum_cons]
/-- From node i on, with these uses told: both sides' answers. -/
def At (L : List S39) (i : Nat) : Prop := ∀ (M : List Int) (B : Nat), M.length = L.length → (∀ x ∈ M, 0 ≤ x ∧ x ≤ B) → B + kidsN (L.drop i) ≤ 1048576 →
  ∃ b, Ev (fun k => impl_ReOk.l0 k L M L (L.length : Int) (i : Int)) b ∧ ((∃ j, ∃ h : j < M.length, j + 1 < L.length ∧ 2 ≤ M[j]) → b = false) ∧ ((∀ x ∈ M, x ≤ 1) → Ev (fun k => spec_ReOk.l0 k L M (i : Int)) b) ∧ (b = true → ∀ j, i ≤ j → ∀ h : j < L.length, Fine L[j] ∧ ∀ y ∈ L[j].f3, 0 ≤ y ∧ y < j)
include hL hp hs
theorem at_end : At L L.length := by
  have _hs := hs
  intro M B hM hb hB
  have e2 := spec_one L M hM (by omega) (L.length - 1) 0 (by omega)
  obtain ⟨r, e, hr⟩ := index_one (M.take (L.length - 1)) (by rw [List.length_take]; omega) (M.take (L.length - 1)).length 0 (by omega)
  have e1 : (M.take (L.length - 1)).length = L.length - 1 := by rw [List.length_take]; omega
  have hr2 : r ≥ 0 ↔ ∃ j, ∃ h : j < M.length, j + 1 < L.length ∧ M[j] ≠ 1 := by
    refine hr.trans ⟨fun ⟨j, hj, _, hn⟩ => ⟨j, by omega, by omega, by rw [List.getElem_take] at hn; exact hn⟩, fun ⟨j, hj, h2, hn⟩ => ⟨j, by omega, Nat.zero_le _, by rw [List.getElem_take]; exact hn⟩⟩
  refine ⟨!decide (r ≥ 0), ?_, fun hq => ?_, fun hx => ?_, fun _ j hj h => absurd h (Nat.not_lt.2 hj)⟩
  · clear hr hr2
    refine ev_use e (Ev.now ()) (fun k g _ => ?_)
    simp only [impl_ReOk.l0]
    rw [if_neg (by omega), wrap_id (n := (L.length : Int) - 1) (by omega) (by omega), if_pos (by omega), if_pos (by omega)]
    rw [show ((L.length : Int) - 1).toNat = L.length - 1 by omega]
    unfold slices_ContainsFunc_int_int_ReOk_1.f slices_IndexFunc_int_int_ReOk_1.f
    rw [show slices_IndexFunc_int_int_ReOk_1.l0 k (M.take (L.length - 1)) ((M.take (L.length - 1)).length : Int) 0 = some r from g, Option.bind_some, Option.bind_some]
  · obtain ⟨j, hj, h2, hn⟩ := hq
    rw [decide_eq_true (hr2.2 ⟨j, hj, h2, fun q => by rw [q] at hn; exact absurd hn (by decide)⟩)]
    rfl
  · have e3 : (!decide (r ≥ 0)) = decide (∀ j, ∀ h : j < M.length, 0 ≤ j → j + 1 < L.length → M[j] = 1) := by
      rw [← decide_not]
      refine decide_eq_decide.2 ?_
      rw [hr2]
      constructor
      · intro z j hj _ h2
        exact Classical.byContradiction fun q => z ⟨j, hj, h2, q⟩
      · rintro z ⟨j, hj, h2, hn⟩
        exact hn (z j hj (Nat.zero_le _) h2)
    rw [e3]
    clear hr hr2
    refine Ev.step (fun k => ?_) e2
    simp only [spec_ReOk.l0]
    rw [if_neg (by omega)]
    rfl
theorem at_kids (i : Nat) (hi : i < L.length) (ih : At L (i + 1)) : ∀ (d p : Nat) (M : List Int) (B : Nat), p + d = L[i].f3.length → M.length = L.length → (∀ x ∈ M, 0 ≤ x ∧ x ≤ B) → B + d + kidsN (L.drop (i + 1)) ≤ 1048576 →
    ∃ b, Ev (fun k => impl_ReOk.l1 k L M (i : Int) L (L.length : Int) (i : Int) L[i].f3 (L[i].f3.length : Int) (p : Int)) b ∧ ((∃ j, ∃ h : j < M.length, j + 1 < L.length ∧ 2 ≤ M[j]) → b = false) ∧ ((∀ x ∈ M, x ≤ 1) → Ev (fun k => spec_ReOk.l1 k L M (i : Int) (p : Int)) b) ∧
      (b = true → (∀ q, p ≤ q → ∀ h : q < L[i].f3.length, 0 ≤ L[i].f3[q] ∧ L[i].f3[q] < i) ∧ ∀ j, i + 1 ≤ j → ∀ h : j < L.length, Fine L[j] ∧ ∀ y ∈ L[j].f3, 0 ≤ y ∧ y < j) := by
  have hk := (hs _ (List.getElem_mem hi)).2
  intro d
  induction d with
  | zero =>
    intro p M B h hM hb hB
    obtain ⟨b, e1, e2, e3, e4⟩ := ih M B hM hb (by omega)
    refine ⟨b, Ev.step (fun k => ?_) e1, e2, fun z => Ev.step (fun k => ?_) (e3 z), fun z => ⟨fun q h1 h2 => absurd h2 (by omega), e4 z⟩⟩
    · simp only [impl_ReOk.l1]
      rw [if_neg (by omega), wrap_nat1 i (by omega)]
    · simp only [spec_ReOk.l1]
      rw [if_pos (by omega), if_pos (by omega), rd_I L i hi, if_neg (by omega), wrap_nat1 i (by omega)]
  | succ d ihd =>
    intro p M B h hM hb hB
    have hq : p < L[i].f3.length := by omega
    by_cases hy : 0 ≤ L[i].f3[p] ∧ L[i].f3[p] < i
    · obtain ⟨y, hy1⟩ := Int.eq_ofNat_of_zero_le hy.1
      have hyi : y < i := by omega
      have hyM : y < M.length := by omega
      have hMy := hb M[y] (List.getElem_mem hyM)
      have hlen : (M.set y (M[y] + 1)).length = L.length := by rw [List.length_set]; exact hM
      have hb2 : ∀ x ∈ M.set y (M[y] + 1), 0 ≤ x ∧ x ≤ ((B + 1 : Nat) : Int) := by
        intro x hx
        rcases List.mem_or_eq_of_mem_set hx with hx | rfl
        · have := hb x hx
          omega
        · omega
      obtain ⟨b, e1, e2, e3, e4⟩ := ihd (p + 1) (M.set y (M[y] + 1)) (B + 1) (by omega) hlen hb2 (by omega)
      have wr : wrap64 (M[y] + 1) = M[y] + 1 := wrap_id (by omega) (by omega)
      refine ⟨b, ?_, ?_, ?_, fun z => ⟨fun q h1 h2 => ?_, (e4 z).2⟩⟩
      · refine Ev.step (fun k => ?_) e1
        simp only [impl_ReOk.l1]
        rw [if_pos (by omega), if_pos (by omega), if_pos (by omega), rd_get _ p hq]
        unfold impl_between.f
        rw [wrap_id (n := (i : Int) - 1) (by omega) (by omega), if_pos (by omega), Option.bind_some, if_pos (decide_eq_true (by omega)), if_pos (by omega), if_pos (by omega), hy1, rd_get M y hyM, wr, wrap_nat1 p (by omega)]
        rfl
      · rintro ⟨j, hj, h2, hn⟩
        refine e2 ⟨j, by rw [List.length_set]; exact hj, h2, ?_⟩
        rw [List.getElem_set]
        split
        · rename_i c
          subst c
          omega
        · exact hn
      · intro hx
        by_cases c : M[y] = 0
        · refine Ev.step (fun k => ?_) (e3 (fun x hx2 => ?_))
          · simp only [spec_ReOk.l1]
            rw [if_pos (by omega), if_pos (by omega), rd_I L i hi, if_pos (by omega), if_pos (by omega), rd_get _ p hq, hy1, if_neg (by omega), if_neg (by omega), if_pos (by omega), if_pos (by omega), rd_get M y hyM, if_neg (by omega), wr, wrap_nat1 p (by omega)]
            rfl
          · rcases List.mem_or_eq_of_mem_set hx2 with hx2 | rfl
            · exact hx x hx2
            · omega
        · have hb' : b = false := e2 ⟨y, by rw [List.length_set]; exact hyM, by omega, by rw [List.getElem_set_self]; omega⟩
          rw [hb']
          refine Ev.step (f := fun _ => some _) (fun k => ?_) (Ev.now _)
          simp only [spec_ReOk.l1]
          rw [if_pos (by omega), if_pos (by omega), rd_I L i hi, if_pos (by omega), if_pos (by omega), rd_get _ p hq, hy1, if_neg (by omega), if_neg (by omega), if_pos (by omega), if_pos (by omega), rd_get M y hyM, if_pos (by omega)]
      · rcases Nat.lt_or_ge p q with g | g
        · exact (e4 z).1 q (by omega) h2
        · obtain rfl : p = q := by omega
          exact hy
    · refine ⟨false, ?_, fun _ => rfl, fun _ => ?_, fun z => by cases z⟩
      · refine Ev.step (f := fun _ => some _) (fun k => ?_) (Ev.now _)
        simp only [impl_ReOk.l1]
        rw [if_pos (by omega), if_pos (by omega), if_pos (by omega), rd_get _ p hq]
        unfold impl_between.f
        rw [wrap_id (n := (i : Int) - 1) (by omega) (by omega)]
        by_cases c : L[i].f3[p] ≥ 0
        · rw [if_pos c, Option.bind_some, if_neg (by simp; omega)]
        · rw [if_neg c, Option.bind_some, if_neg (by simp)]
      · refine Ev.step (f := fun _ => some _) (fun k => ?_) (Ev.now _)
        simp only [spec_ReOk.l1]
        rw [if_pos (by omega), if_pos (by omega), rd_I L i hi, if_pos (by omega), if_pos (by omega), rd_get _ p hq]
        by_cases c : L[i].f3[p] < 0
        · rw [if_pos c]
        · rw [if_neg c, if_pos (by omega)]
theorem at_all : ∀ (d i : Nat), i + d = L.length → At L i := by
  intro d
  induction d with
  | zero =>
    intro i h
    obtain rfl : i = L.length := by omega
    exact at_end hL hp hs
  | succ d ih =>
    intro i h M B hM hb hB
    have hi : i < L.length := by omega
    rw [kidsN_drop L i hi] at hB
    obtain ⟨v, n1, n2, n3⟩ := node_same L[i] (hs _ (List.getElem_mem hi)).1
    cases v with
    | true =>
      obtain ⟨b, e1, e2, e3, e4⟩ := at_kids hL hp hs i hi (ih (i + 1) (by omega)) L[i].f3.length 0 M B (by omega) hM hb (by omega)
      refine ⟨b, ?_, e2, fun z => ?_, fun z j hj h2 => ?_⟩
      · refine ev_use n2 e1 (fun k g1 g2 => ?_)
        simp only [impl_ReOk.l0]
        rw [if_pos (by omega), if_pos (by omega), if_pos (by omega), rd_I L i hi, g1, Option.bind_some, if_pos (rfl : true = true)]
        exact g2
      · refine ev_use n1 (e3 z) (fun k g1 g2 => ?_)
        simp only [spec_ReOk.l0]
        rw [if_pos (by omega), if_pos (by omega), rd_I L i hi, g1, Option.bind_some, if_pos (rfl : true = true)]
        exact g2
      · rcases Nat.lt_or_ge i j with g | g
        · exact (e4 z).2 j (by omega) h2
        · obtain rfl : i = j := by omega
          refine ⟨n3 rfl, fun y hy => ?_⟩
          obtain ⟨q, hq, rfl⟩ := List.getElem_of_mem hy
          exact (e4 z).1 q (Nat.zero_le _) hq
    | false =>
      refine ⟨false, ?_, fun _ => rfl, fun _ => ?_, fun z => by cases z⟩
      · refine ev_use n2 (Ev.now ()) (fun k g1 _ => ?_)
        simp only [impl_ReOk.l0]
        rw [if_pos (by omega), if_pos (by omega), if_pos (by omega), rd_I L i hi, g1, Option.bind_some, if_neg (by simp)]
      · refine ev_use n1 (Ev.now ()) (fun k g1 _ => ?_)
        simp only [spec_ReOk.l0]
        rw [if_pos (by omega), if_pos (by omega), rd_I L i hi, g1, Option.bind_some, if_neg (by simp)]
end
/-- Both sides' answers; and what a valid row is. -/
theorem ok_same (L : List S39) (hL : L.length ≤ 1048576) (hs : ∀ x ∈ L, x.f2.size ≤ 1048576 ∧ x.f3.length ≤ 1048576) (hk : kidsN L ≤ 1048576) :
    ∃ b, Ev (fun k => impl_ReOk.f k L) b ∧ Ev (fun k => spec_ReOk.f k L) b ∧ (b = true → 1 ≤ L.length ∧ L.length ≤ 200 ∧ ∀ j, ∀ h : j < L.length, Fine L[j] ∧ ∀ y ∈ L[j].f3, 0 ≤ y ∧ y < j) := by
  by_cases h1 : 1 ≤ L.length ∧ L.length ≤ 200
  · obtain ⟨b, e1, _, e3, e4⟩ := at_all h1.2 h1.1 hs L.length 0 (by omega) (List.replicate L.length 0) 0 (by simp) (fun x hx => by have := List.eq_of_mem_replicate hx; omega) (by rw [List.drop_zero]; omega)
    refine ⟨b, Ev.congr (fun k => ?_) e1, ?_, fun z => ⟨h1.1, h1.2, fun j h => e4 z j (Nat.zero_le _) h⟩⟩
    · unfold impl_ReOk.f impl_between.f
      rw [if_pos (by omega), Option.bind_some, if_pos (decide_eq_true (by omega)), if_pos (by omega), if_pos (by simp; omega)]
      rfl
    · have j0 : Ev (fun k => spec_ReOk.j0 k L false) b := by
        refine Ev.step (fun k => ?_) (e3 (fun x hx => by have := List.eq_of_mem_replicate hx; omega))
        simp only [spec_ReOk.j0]
        rw [if_neg (by simp), if_pos (by omega), if_pos (by simp; omega)]
        rfl
      refine Ev.congr (fun k => ?_) j0
      unfold spec_ReOk.f
      rw [if_neg (by omega), decide_eq_false (by omega)]
  · have j0 : Ev (fun k => spec_ReOk.j0 k L true) false := by
      refine Ev.step (f := fun _ => some _) (fun k => ?_) (Ev.now _)
      simp only [spec_ReOk.j0]
      rw [if_pos trivial]
    refine ⟨false, ⟨0, fun k _ => ?_⟩, Ev.congr (fun k => ?_) j0, fun z => by cases z⟩
    · show impl_ReOk.f k L = _
      unfold impl_ReOk.f impl_between.f
      by_cases c : (L.length : Int) ≥ 1
      · rw [if_pos c, Option.bind_some, if_neg (by simp; omega)]
      · rw [if_neg c, Option.bind_some, if_neg (by simp)]
    · unfold spec_ReOk.f
      by_cases c : (L.length : Int) < 1
      · rw [if_pos c]
      · rw [if_neg c, decide_eq_true (by omega)]
theorem kidsN_le (L : List S39) : kidsN L ≤ sumW L := by
  unfold kidsN sumW
  induction L with
  | nil => simp
  | cons x l ih =>
    rw [List.map_cons, List.sum_cons, List.map_cons, List.sum_cons]
    unfold wt
    unfold wt at ih
    omega
end Go.Proofs.Ytmddcohelcciaaa.PFnExactReText
