/- A program's nodes and items: their weight, their copies, their sameness. -/
import Derived.Test.YtmddcohelcciaabPFnExactSameProgx
import Derived.Test.YtmddcohelcciaabLFnExactSameProgInts
import Derived.Test.YtmddcohelcciaabLFnExactSameProgStrs
import Derived.Test.YtmddcohelcciaabLFnExactSameProgEqRow
import Derived.Test.YtmddcohelcciaabXLem
namespace Go.Proofs.Ytmddcohelcciaab.PFnExactSameProg
set_option linter.unusedVariables false
set_option linter.unusedSimpArgs false
open Go.RowKit Go.Proofs.YtmddcohelcciaabW.PrintWords Go.Proofs.YtmddcohelcciaabW.PrintLast Go.Proofs.YtmddcohelcciaabW.PrintMore Go.Proofs.Ytmddcohelcciaab.XL
theorem rd_NL (L : List S58) (i : Nat) (h : i < L.length) : rd_T58 L (i : Int) = L[i] := by
  unfold rd_T58
  rw [Int.toNat_natCast, List.getD_eq_getElem?_getD, List.getElem?_eq_getElem h]
  rfl
theorem rd_NI (L : List S43) (i : Nat) (h : i < L.length) : rd_T43 L (i : Int) = L[i] := by
  unfold rd_T43
  rw [Int.toNat_natCast, List.getD_eq_getElem?_getD, List.getElem?_eq_getElem h]
  rfl
theorem rd_IL (L : List S60) (i : Nat) (h : i < L.length) : rd_T60 L (i : Int) = L[i] := by
  unfold rd_T60
  rw [Int.toNat_natCast, List.getD_eq_getElem?_getD, List.getElem?_eq_getElem h]
  rfl
theorem rd_II (L : List S51) (i : Nat) (h : i < L.length) : rd_T51 L (i : Int) = L[i] := by
  unfold rd_T51
  rw [Int.toNat_natCast, List.getD_eq_getElem?_getD, List.getElem?_eq_getElem h]
  rfl
def toN (x : S58) : S43 := ⟨x.f0, x.f1, x.f2, x.f3, x.f4⟩
def toT (x : S60) : S51 := ⟨x.f0, x.f1, x.f2, x.f3, x.f4⟩
def wtN (x : S58) : Nat := x.f1.size + x.f2.size + x.f4.length
def wtT (x : S60) : Nat := x.f1.size + (x.f2.length + sumS x.f2)
def sumN (L : List S58) : Nat := (L.map wtN).sum
def sumT (L : List S60) : Nat := (L.map wtT).sum
theorem sumN_drop (L : List S58) (i : Nat) (h : i < L.length) : sumN (L.drop i) = wtN L[i] + sumN (L.drop (i + 1)) := by
  unfold sumN
  rw [List.drop_eq_getElem_cons h, List.map_cons, List.sum_cons]
theorem sumT_drop (L : List S60) (i : Nat) (h : i < L.length) : sumT (L.drop i) = wtT L[i] + sumT (L.drop (i + 1)) := by
  unfold sumT
  rw [List.drop_eq_getElem_cons h, List.map_cons, List.sum_cons]
theorem sumN_mem {L : List S58} {x : S58} (h : x ∈ L) : wtN x ≤ sumN L := by
  unfold sumN
  induction L with
  | nil => cases h
  | cons y l ih =>
    rw [List.map_cons, List.sum_cons]
    rcases List.mem_cons.1 h with rfl | h
    · omega
    · have := ih h
      omega
theorem sumT_mem {L : List S60} {x : S60} (h : x ∈ L) : wtT x ≤ sumT L := by
  unfold sumT
  induction L with
  | nil => cases h
  | cons y l ih =>
    rw [List.map_cons, List.sum_cons]
    rcases List.mem_cons.1 h with rfl | h
    · omega
    · have := ih h
      omega
theorem sz_node (L : List S58) (hl : L.length ≤ 9223372036854775807) (hx : ∀ x ∈ L, x.f1.size ≤ 9223372036854775807 ∧ x.f2.size ≤ 9223372036854775807 ∧ x.f4.length ≤ 9223372036854775807) (left : Int) (h0 : 0 ≤ left) (h1 : left ≤ 1048576) :
    ∃ r, Ev (fun k => laws_szNodeS.f k L left) r ∧ (¬ r < 0 → r = left - (L.length : Int) - (sumN L : Nat)) ∧ r ≤ 1048576 := by
  have loop : ∀ (d i : Nat) (v : Int), i + d = L.length → 0 ≤ v → v ≤ 1048576 → ∃ r, Ev (fun k => laws_szNodeS.l0 k L v (i : Int)) r ∧ (¬ r < 0 → r = v - (sumN (L.drop i) : Nat)) ∧ r ≤ 1048576 := by
    intro d
    induction d with
    | zero =>
      intro i v h v0 v1
      refine ⟨v, Ev.step (f := fun _ => some _) (fun k => ?_) (Ev.now _), fun _ => ?_, v1⟩
      · simp only [laws_szNodeS.l0]
        rw [if_neg (by omega)]
      · rw [List.drop_of_length_le (by omega)]
        simp [sumN]
    | succ d ih =>
      intro i v h v0 v1
      have hi : i < L.length := by omega
      obtain ⟨ha, hb, hk⟩ := hx L[i] (List.getElem_mem hi)
      have e : laws_szNode.f L[i].f0 L[i].f1 L[i].f2 L[i].f3 L[i].f4 v = some (if v - (L[i].f1.size : Int) - (L[i].f2.size : Int) - (L[i].f4.length : Int) < 0 then -1 else v - (L[i].f1.size : Int) - (L[i].f2.size : Int) - (L[i].f4.length : Int)) := by
        unfold laws_szNode.f
        rw [wrap_id (n := v - (L[i].f1.size : Int)) (by omega) (by omega)]
        by_cases c1 : v - (L[i].f1.size : Int) < 0
        · rw [if_pos c1, if_pos (by omega)]
        · rw [if_neg c1, wrap_id (n := v - (L[i].f1.size : Int) - (L[i].f2.size : Int)) (by omega) (by omega)]
          by_cases c2 : v - (L[i].f1.size : Int) - (L[i].f2.size : Int) < 0
          · rw [if_pos c2, if_pos (by omega)]
          · rw [if_neg c2]
            unfold laws_szIntS.f
            rw [wrap_id (n := v - (L[i].f1.size : Int) - (L[i].f2.size : Int) - (L[i].f4.length : Int)) (by omega) (by omega)]
            by_cases c3 : v - (L[i].f1.size : Int) - (L[i].f2.size : Int) - (L[i].f4.length : Int) < 0
            · rw [if_pos c3, if_pos c3, Option.bind_some, if_pos (by omega)]
            · rw [if_neg c3, if_neg c3, Option.bind_some, if_neg c3]
      by_cases hn : v - (L[i].f1.size : Int) - (L[i].f2.size : Int) - (L[i].f4.length : Int) < 0
      · refine ⟨-1, Ev.step (f := fun _ => some _) (fun k => ?_) (Ev.now _), fun z => absurd (by omega) z, by omega⟩
        simp only [laws_szNodeS.l0]
        rw [if_pos (by omega), if_pos (by omega), rd_NL L i hi, e, Option.bind_some, if_pos hn, if_pos (by omega)]
      · obtain ⟨r, e2, hr, hr2⟩ := ih (i + 1) (v - (L[i].f1.size : Int) - (L[i].f2.size : Int) - (L[i].f4.length : Int)) (by omega) (by omega) (by omega)
        refine ⟨r, Ev.step (fun k => ?_) e2, fun z => ?_, hr2⟩
        · simp only [laws_szNodeS.l0]
          rw [if_pos (by omega), if_pos (by omega), rd_NL L i hi, e, Option.bind_some, if_neg hn, if_neg hn, wrap_nat1 i (by omega)]
        · rw [hr z, sumN_drop L i hi]
          unfold wtN
          omega
  by_cases hn : left - (L.length : Int) < 0
  · refine ⟨-1, ⟨0, fun k _ => ?_⟩, fun z => absurd (by omega) z, by omega⟩
    show laws_szNodeS.f k L left = _
    unfold laws_szNodeS.f
    rw [wrap_id (by omega) (by omega), if_pos hn]
  · obtain ⟨r, e, hr, hr2⟩ := loop L.length 0 (left - (L.length : Int)) (by omega) (by omega) (by omega)
    rw [List.drop_zero] at hr
    refine ⟨r, Ev.congr (fun k => ?_) e, hr, hr2⟩
    unfold laws_szNodeS.f
    rw [wrap_id (by omega) (by omega), if_neg hn]
    rfl
theorem sz_item (L : List S60) (hl : L.length ≤ 9223372036854775807) (hx : ∀ x ∈ L, x.f1.size ≤ 9223372036854775807 ∧ x.f2.length ≤ 9223372036854775807 ∧ ∀ y ∈ x.f2, y.size ≤ maxLen) (left : Int) (h0 : 0 ≤ left) (h1 : left ≤ 1048576) :
    ∃ r, Ev (fun k => laws_szItemS.f k L left) r ∧ (¬ r < 0 → r = left - (L.length : Int) - (sumT L : Nat)) ∧ r ≤ 1048576 := by
  have loop : ∀ (d i : Nat) (v : Int), i + d = L.length → 0 ≤ v → v ≤ 1048576 → ∃ r, Ev (fun k => laws_szItemS.l0 k L v (i : Int)) r ∧ (¬ r < 0 → r = v - (sumT (L.drop i) : Nat)) ∧ r ≤ 1048576 := by
    intro d
    induction d with
    | zero =>
      intro i v h v0 v1
      refine ⟨v, Ev.step (f := fun _ => some _) (fun k => ?_) (Ev.now _), fun _ => ?_, v1⟩
      · simp only [laws_szItemS.l0]
        rw [if_neg (by omega)]
      · rw [List.drop_of_length_le (by omega)]
        simp [sumT]
    | succ d ih =>
      intro i v h v0 v1
      have hi : i < L.length := by omega
      obtain ⟨ha, hk, hy⟩ := hx L[i] (List.getElem_mem hi)
      have e : ∃ u : Int, Ev (fun k => laws_szItem.f k L[i].f0 L[i].f1 L[i].f2 L[i].f3 L[i].f4 v) u ∧ (¬ u < 0 → u = v - (wtT L[i] : Nat)) ∧ u ≤ 1048576 := by
        by_cases c1 : v - (L[i].f1.size : Int) < 0
        · refine ⟨-1, ⟨0, fun k _ => ?_⟩, fun z => absurd (by omega) z, by omega⟩
          show laws_szItem.f k L[i].f0 L[i].f1 L[i].f2 L[i].f3 L[i].f4 v = _
          unfold laws_szItem.f
          rw [wrap_id (n := v - (L[i].f1.size : Int)) (by omega) (by omega), if_pos c1]
        · obtain ⟨u, f1, f2, f3⟩ := sz_strs L[i].f2 hk hy (v - (L[i].f1.size : Int)) (by omega) (by omega)
          by_cases c2 : u < 0
          · refine ⟨-1, ev_use1 f1 (fun k g => ?_), fun z => absurd (by omega) z, by omega⟩
            unfold laws_szItem.f
            rw [wrap_id (n := v - (L[i].f1.size : Int)) (by omega) (by omega), if_neg c1, g, Option.bind_some, if_pos c2]
          · refine ⟨u, ev_use1 f1 (fun k g => ?_), fun z => ?_, f3⟩
            · unfold laws_szItem.f
              rw [wrap_id (n := v - (L[i].f1.size : Int)) (by omega) (by omega), if_neg c1, g, Option.bind_some, if_neg c2]
            · rw [f2 c2]
              unfold wtT
              omega
      obtain ⟨u, f1, f2, f3⟩ := e
      by_cases hn : u < 0
      · refine ⟨-1, ev_use f1 (Ev.now ()) (fun k g _ => ?_), fun z => absurd (by omega) z, by omega⟩
        simp only [laws_szItemS.l0]
        rw [if_pos (by omega), if_pos (by omega), rd_IL L i hi, g, Option.bind_some, if_pos hn]
      · obtain ⟨r, e2, hr, hr2⟩ := ih (i + 1) u (by omega) (by omega) f3
        refine ⟨r, ev_use f1 e2 (fun k g g2 => ?_), fun z => ?_, hr2⟩
        · simp only [laws_szItemS.l0]
          rw [if_pos (by omega), if_pos (by omega), rd_IL L i hi, g, Option.bind_some, if_neg hn, wrap_nat1 i (by omega)]
          exact g2
        · rw [hr z, f2 hn, sumT_drop L i hi]
          omega
  by_cases hn : left - (L.length : Int) < 0
  · refine ⟨-1, ⟨0, fun k _ => ?_⟩, fun z => absurd (by omega) z, by omega⟩
    show laws_szItemS.f k L left = _
    unfold laws_szItemS.f
    rw [wrap_id (by omega) (by omega), if_pos hn]
  · obtain ⟨r, e, hr, hr2⟩ := loop L.length 0 (left - (L.length : Int)) (by omega) (by omega) (by omega)
    rw [List.drop_zero] at hr
    refine ⟨r, Ev.congr (fun k => ?_) e, hr, hr2⟩
    unfold laws_szItemS.f
    rw [wrap_id (by omega) (by omega), if_neg hn]
    rfl
def smallN (L : List S58) : Prop := L.length ≤ 1048576 ∧ ∀ x ∈ L, x.f1.size ≤ 1048576 ∧ x.f2.size ≤ 1048576 ∧ x.f4.length ≤ 1048576
def smallT (L : List S60) : Prop := L.length ≤ 1048576 ∧ ∀ x ∈ L, x.f1.size ≤ 1048576 ∧ x.f2.length ≤ 1048576 ∧ sumS x.f2 ≤ 1048576
/-- What is told of a program that comes in. -/
def InN (L : List S58) : Prop := L.length ≤ maxLen ∧ ∀ x ∈ L, x.f1.size ≤ maxLen ∧ x.f2.size ≤ maxLen ∧ x.f4.length ≤ maxLen
def InT (L : List S60) : Prop := L.length ≤ maxLen ∧ ∀ x ∈ L, x.f1.size ≤ maxLen ∧ x.f2.length ≤ maxLen ∧ ∀ y ∈ x.f2, y.size ≤ maxLen
theorem sz_prog (L : List S58) (T : List S60) (hL : InN L) (hT : InT T) (left : Int) (h0 : 0 ≤ left) (h1 : left ≤ 1048576) :
    ∃ r, Ev (fun k => laws_szProg.f k L T left) r ∧ (¬ r < 0 → smallN L ∧ smallT T) ∧ r ≤ 1048576 := by
  have h63 : maxLen = 9223372036854775807 := rfl
  obtain ⟨r, e, hr, hr2⟩ := sz_node L (by rw [← h63]; exact hL.1) (fun x hx => by have := hL.2 x hx; omega) left h0 h1
  by_cases c : r < 0
  · refine ⟨-1, ev_use1 e (fun k g => ?_), fun z => absurd (by omega) z, by omega⟩
    unfold laws_szProg.f
    rw [g, Option.bind_some, if_pos c]
  · obtain ⟨u, f, hu, hu2⟩ := sz_item T (by rw [← h63]; exact hT.1) (fun x hx => ⟨by have := (hT.2 x hx).1; omega, by have := (hT.2 x hx).2.1; omega, (hT.2 x hx).2.2⟩) r (by omega) hr2
    by_cases c2 : u < 0
    · refine ⟨-1, ev_use0 e f (fun k g g2 => ?_), fun z => absurd (by omega) z, by omega⟩
      unfold laws_szProg.f
      rw [g, Option.bind_some, if_neg c, g2, Option.bind_some, if_pos c2]
    · have q1 := hr c
      have q2 := hu c2
      refine ⟨u, ev_use0 e f (fun k g g2 => ?_), fun _ => ⟨⟨by omega, fun x hx => ?_⟩, ⟨by omega, fun x hx => ?_⟩⟩, hu2⟩
      · unfold laws_szProg.f
        rw [g, Option.bind_some, if_neg c, g2, Option.bind_some, if_neg c2]
      · have := sumN_mem hx
        unfold wtN at this
        omega
      · have := sumT_mem hx
        unfold wtT at this
        omega
theorem to_nodes (L : List S58) (hL : smallN L) : Ev (fun k => laws_toNodeS.f k L) (L.map toN) := by
  obtain ⟨hl, hx⟩ := hL
  have loop : ∀ (d i : Nat) (M : List S43), i + d = L.length → M.length = L.length → M.take i = (L.map toN).take i → Ev (fun k => laws_toNodeS.l0 k L M (i : Int)) (L.map toN) := by
    intro d
    induction d with
    | zero =>
      intro i M h hM ht
      have e : M = L.map toN := by
        rw [List.take_of_length_le (by omega), List.take_of_length_le (by rw [List.length_map]; omega)] at ht
        exact ht
      subst e
      refine Ev.step (f := fun _ => some _) (fun k => ?_) (Ev.now _)
      simp only [laws_toNodeS.l0]
      rw [if_neg (by omega)]
    | succ d ih =>
      intro i M h hM ht
      have hi : i < L.length := by omega
      have hset : (M.set i (toN L[i])).take (i + 1) = (L.map toN).take (i + 1) := by
        rw [List.take_succ_eq_append_getElem (by rw [List.length_set]; omega), List.take_set_of_le (Nat.le_refl _), List.getElem_set_self, ht, List.take_succ_eq_append_getElem (by rw [List.length_map]; exact hi), List.getElem_map]
      refine ev_use (to_ints L[i].f4 (hx _ (List.getElem_mem hi)).2.2) (ih (i + 1) (M.set i (toN L[i])) (by omega) (by rw [List.length_set]; exact hM) hset) (fun k e1 e2 => ?_)
      simp only [laws_toNodeS.l0]
      rw [if_pos (by omega), if_pos (by omega), rd_NL L i hi]
      unfold laws_toNode.f
      rw [e1, Option.bind_some, Option.bind_some, if_pos (by omega), wrap_nat1 i (by omega)]
      exact e2
  refine Ev.congr (fun k => ?_) (loop L.length 0 (List.replicate L.length z43) (by omega) (by simp) (by simp))
  unfold laws_toNodeS.f
  rw [if_pos (by omega), if_pos (by simp; omega)]
  rfl
theorem to_items (L : List S60) (hL : smallT L) : Ev (fun k => laws_toItemS.f k L) (L.map toT) := by
  obtain ⟨hl, hx⟩ := hL
  have loop : ∀ (d i : Nat) (M : List S51), i + d = L.length → M.length = L.length → M.take i = (L.map toT).take i → Ev (fun k => laws_toItemS.l0 k L M (i : Int)) (L.map toT) := by
    intro d
    induction d with
    | zero =>
      intro i M h hM ht
      have e : M = L.map toT := by
        rw [List.take_of_length_le (by omega), List.take_of_length_le (by rw [List.length_map]; omega)] at ht
        exact ht
      subst e
      refine Ev.step (f := fun _ => some _) (fun k => ?_) (Ev.now _)
      simp only [laws_toItemS.l0]
      rw [if_neg (by omega)]
    | succ d ih =>
      intro i M h hM ht
      have hi : i < L.length := by omega
      have hset : (M.set i (toT L[i])).take (i + 1) = (L.map toT).take (i + 1) := by
        rw [List.take_succ_eq_append_getElem (by rw [List.length_set]; omega), List.take_set_of_le (Nat.le_refl _), List.getElem_set_self, ht, List.take_succ_eq_append_getElem (by rw [List.length_map]; exact hi), List.getElem_map]
      refine ev_use (to_strs L[i].f2 (by have := (hx _ (List.getElem_mem hi)).2.1; omega)) (ih (i + 1) (M.set i (toT L[i])) (by omega) (by rw [List.length_set]; exact hM) hset) (fun k e1 e2 => ?_)
      simp only [laws_toItemS.l0]
      rw [if_pos (by omega), if_pos (by omega), rd_IL L i hi]
      unfold laws_toItem.f
      rw [e1, Option.bind_some, Option.bind_some, if_pos (by omega), wrap_nat1 i (by omega)]
      exact e2
  refine Ev.congr (fun k => ?_) (loop L.length 0 (List.replicate L.length z51) (by omega) (by simp) (by simp))
  unfold laws_toItemS.f
  rw [if_pos (by omega), if_pos (by simp; omega)]
  rfl
theorem to_prog (L : List S58) (T : List S60) (hL : smallN L) (hT : smallT T) : Ev (fun k => laws_toProg.f k L T) (L.map toN, T.map toT) := by
  refine ev_use0 (to_nodes L hL) (to_items T hT) (fun k e1 e2 => ?_)
  unfold laws_toProg.f
  rw [e1, Option.bind_some, e2, Option.bind_some]
theorem eq_nodes (L : List S58) (hL : smallN L) : Ev (fun k => laws_eqNodeS.f k (L.map toN) (L.map toN)) true := by
  obtain ⟨hl, hx⟩ := hL
  have loop : ∀ (d i : Nat), i + d = L.length → Ev (fun k => laws_eqNodeS.l0 k (L.map toN) (L.map toN) (i : Int)) true := by
    intro d
    induction d with
    | zero =>
      intro i h
      refine Ev.step (f := fun _ => some _) (fun k => ?_) (Ev.now _)
      simp only [laws_eqNodeS.l0]
      rw [if_neg (by rw [List.length_map]; omega)]
    | succ d ih =>
      intro i h
      have hi : i < L.length := by omega
      refine ev_use (eq_ints L[i].f4 (hx _ (List.getElem_mem hi)).2.2) (ih (i + 1) (by omega)) (fun k e1 e2 => ?_)
      simp only [laws_eqNodeS.l0]
      rw [if_pos (by rw [List.length_map]; omega), if_pos (by omega), if_pos (by rw [List.length_map]; omega), rd_NI _ i (by rw [List.length_map]; exact hi), List.getElem_map]
      unfold laws_eqNode.f toN
      rw [if_pos rfl, if_pos rfl, if_pos rfl, if_pos rfl, e1, Option.bind_some, if_pos (rfl : true = true), Option.bind_some, if_pos (rfl : true = true), wrap_nat1 i (by omega)]
      exact e2
  refine Ev.congr (fun k => ?_) (loop L.length 0 (by omega))
  unfold laws_eqNodeS.f
  rw [if_pos rfl]
  rfl
theorem eq_items (L : List S60) (hL : smallT L) : Ev (fun k => laws_eqItemS.f k (L.map toT) (L.map toT)) true := by
  obtain ⟨hl, hx⟩ := hL
  have loop : ∀ (d i : Nat), i + d = L.length → Ev (fun k => laws_eqItemS.l0 k (L.map toT) (L.map toT) (i : Int)) true := by
    intro d
    induction d with
    | zero =>
      intro i h
      refine Ev.step (f := fun _ => some _) (fun k => ?_) (Ev.now _)
      simp only [laws_eqItemS.l0]
      rw [if_neg (by rw [List.length_map]; omega)]
    | succ d ih =>
      intro i h
      have hi : i < L.length := by omega
      refine ev_use (eq_row L[i].f2 (by have := (hx _ (List.getElem_mem hi)).2.1; omega)) (ih (i + 1) (by omega)) (fun k e1 e2 => ?_)
      simp only [laws_eqItemS.l0]
      rw [if_pos (by rw [List.length_map]; omega), if_pos (by omega), if_pos (by rw [List.length_map]; omega), rd_II _ i (by rw [List.length_map]; exact hi), List.getElem_map]
      unfold laws_eqItem.f toT
      rw [if_pos rfl, if_pos rfl, e1, Option.bind_some, if_pos (rfl : true = true), if_pos rfl, if_pos rfl, Option.bind_some, if_pos (rfl : true = true), wrap_nat1 i (by omega)]
      exact e2
  refine Ev.congr (fun k => ?_) (loop L.length 0 (by omega))
  unfold laws_eqItemS.f
  rw [if_pos rfl]
  rfl
theorem eq_prog (L : List S58) (T : List S60) (hL : smallN L) (hT : smallT T) : Ev (fun k => laws_eqProg.f k (L.map toN) (T.map toT) (L.map toN) (T.map toT)) true := by
  refine ev_use0 (eq_nodes L hL) (eq_items T hT) (fun k e1 e2 => ?_)
  unfold laws_eqProg.f
  rw [e1, Option.bind_some, if_pos (rfl : true = true), e2, Option.bind_some, if_pos (rfl : true = true)]
end Go.Proofs.Ytmddcohelcciaab.PFnExactSameProg
