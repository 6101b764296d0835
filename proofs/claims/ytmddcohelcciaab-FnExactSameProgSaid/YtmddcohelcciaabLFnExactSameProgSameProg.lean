/- Two programs are the same. -/
import Derived.Test.YtmddcohelcciaabPFnExactSameProgx
import Derived.Test.YtmddcohelcciaabLFnExactSameProgInts
import Derived.Test.YtmddcohelcciaabLFnExactSameProgStrs
import Derived.Test.YtmddcohelcciaabLFnExactSameProgEqRow
import Derived.Test.YtmddcohelcciaabLFnExactSameProgProgRow
import Derived.Test.YtmddcohelcciaabXLem
namespace Go.Proofs.Ytmddcohelcciaab.PFnExactSameProg
set_option linter.unusedVariables false
set_option linter.unusedSimpArgs false
open Go.RowKit Go.Proofs.YtmddcohelcciaabW.PrintWords Go.Proofs.YtmddcohelcciaabW.PrintLast Go.Proofs.YtmddcohelcciaabW.PrintMore Go.Proofs.Ytmddcohelcciaab.XL
theorem ints_same (X Y : List Int) (hX : X.length ≤ 1048576) : ∃ b, Ev (fun k => spec_l4sameInts.f k X Y) b ∧ Ev (fun k => slices_Equal_int_int.f k X Y) b := by
  by_cases hl : X.length = Y.length
  · have loop : ∀ (d i : Nat), i + d = X.length → ∃ b, Ev (fun k => spec_l4sameInts.l0 k X Y (i : Int)) b ∧ Ev (fun k => slices_Equal_int_int.l0 k X Y (X.length : Int) (i : Int)) b := by
      intro d
      induction d with
      | zero =>
        intro i h
        refine ⟨true, Ev.step (f := fun _ => some _) (fun k => ?_) (Ev.now _), Ev.step (f := fun _ => some _) (fun k => ?_) (Ev.now _)⟩
        · simp only [spec_l4sameInts.l0]
          rw [if_neg (by omega)]
        · simp only [slices_Equal_int_int.l0]
          rw [if_neg (by omega)]
      | succ d ih =>
        intro i h
        by_cases c : rd X (i : Int) = rd Y (i : Int)
        · obtain ⟨b, e1, e2⟩ := ih (i + 1) (by omega)
          refine ⟨b, Ev.step (fun k => ?_) e1, Ev.step (fun k => ?_) e2⟩
          · simp only [spec_l4sameInts.l0]
            rw [if_pos (by omega), if_pos (by omega), if_pos (by omega), if_pos c, wrap_nat1 i (by omega)]
          · simp only [slices_Equal_int_int.l0]
            rw [if_pos (by omega), if_pos (by omega), if_pos (by omega), if_pos (by omega), if_pos c, wrap_nat1 i (by omega)]
        · refine ⟨false, Ev.step (f := fun _ => some _) (fun k => ?_) (Ev.now _), Ev.step (f := fun _ => some _) (fun k => ?_) (Ev.now _)⟩
          · simp only [spec_l4sameInts.l0]
            rw [if_pos (by omega), if_pos (by omega), if_pos (by omega), if_neg c]
          · simp only [slices_Equal_int_int.l0]
            rw [if_pos (by omega), if_pos (by omega), if_pos (by omega), if_pos (by omega), if_neg c]
    obtain ⟨b, e1, e2⟩ := loop X.length 0 (by omega)
    refine ⟨b, Ev.congr (fun k => ?_) e1, Ev.congr (fun k => ?_) e2⟩
    · unfold spec_l4sameInts.f
      rw [if_pos (by omega)]
      rfl
    · unfold slices_Equal_int_int.f
      rw [if_pos (by omega)]
      rfl
  · refine ⟨false, ⟨0, fun k _ => ?_⟩, ⟨0, fun k _ => ?_⟩⟩
    · show spec_l4sameInts.f k X Y = _
      unfold spec_l4sameInts.f
      rw [if_neg (by omega)]
    · show slices_Equal_int_int.f k X Y = _
      unfold slices_Equal_int_int.f
      rw [if_neg (by omega)]
theorem texts_same (X Y : List ByteArray) (hX : X.length ≤ 1048576) : ∃ b, Ev (fun k => spec_l4sameTexts.f k X Y) b ∧ Ev (fun k => slices_Equal_string_string.f k X Y) b := by
  by_cases hl : X.length = Y.length
  · have loop : ∀ (d i : Nat), i + d = X.length → ∃ b, Ev (fun k => spec_l4sameTexts.l0 k X Y (i : Int)) b ∧ Ev (fun k => slices_Equal_string_string.l0 k X Y (X.length : Int) (i : Int)) b := by
      intro d
      induction d with
      | zero =>
        intro i h
        refine ⟨true, Ev.step (f := fun _ => some _) (fun k => ?_) (Ev.now _), Ev.step (f := fun _ => some _) (fun k => ?_) (Ev.now _)⟩
        · simp only [spec_l4sameTexts.l0]
          rw [if_neg (by omega)]
        · simp only [slices_Equal_string_string.l0]
          rw [if_neg (by omega)]
      | succ d ih =>
        intro i h
        by_cases c : (rdOf ByteArray.empty X (i : Int)).toList = (rdOf ByteArray.empty Y (i : Int)).toList
        · obtain ⟨b, e1, e2⟩ := ih (i + 1) (by omega)
          refine ⟨b, Ev.step (fun k => ?_) e1, Ev.step (fun k => ?_) e2⟩
          · simp only [spec_l4sameTexts.l0]
            rw [if_pos (by omega), if_pos (by omega), if_pos (by omega), if_pos c, wrap_nat1 i (by omega)]
          · simp only [slices_Equal_string_string.l0]
            rw [if_pos (by omega), if_pos (by omega), if_pos (by omega), if_pos (by omega), if_pos c, wrap_nat1 i (by omega)]
        · refine ⟨false, Ev.step (f := fun _ => some _) (fun k => ?_) (Ev.now _), Ev.step (f := fun _ => some _) (fun k => ?_) (Ev.now _)⟩
          · simp only [spec_l4sameTexts.l0]
            rw [if_pos (by omega), if_pos (by omega), if_pos (by omega), if_neg c]
          · simp only [slices_Equal_string_string.l0]
            rw [if_pos (by omega), if_pos (by omega), if_pos (by omega), if_pos (by omega), if_neg c]
    obtain ⟨b, e1, e2⟩ := loop X.length 0 (by omega)
    refine ⟨b, Ev.congr (fun k => ?_) e1, Ev.congr (fun k => ?_) e2⟩
    · unfold spec_l4sameTexts.f
      rw [if_pos (by omega)]
      rfl
    · unfold slices_Equal_string_string.f
      rw [if_pos (by omega)]
      rfl
  · refine ⟨false, ⟨0, fun k _ => ?_⟩, ⟨0, fun k _ => ?_⟩⟩
    · show spec_l4sameTexts.f k X Y = _
      unfold spec_l4sameTexts.f
      rw [if_neg (by omega)]
    · show slices_Equal_string_string.f k X Y = _
      unfold slices_Equal_string_string.f
      rw [if_neg (by omega)]
section
variable (L M : List S43) (T U : List S51)
theorem node_step (hL : L.length ≤ 1048576) (hl : L.length = M.length) (hk : ∀ x ∈ L, x.f4.length ≤ 1048576) (i : Nat) (hi : i < L.length) :
    ∃ c, Ev (fun k => impl_SameProg_1.f k (rd_T43 L (i : Int)).f0 (rd_T43 L (i : Int)).f1 (rd_T43 L (i : Int)).f2 (rd_T43 L (i : Int)).f3 (rd_T43 L (i : Int)).f4 (rd_T43 M (i : Int)).f0 (rd_T43 M (i : Int)).f1 (rd_T43 M (i : Int)).f2 (rd_T43 M (i : Int)).f3 (rd_T43 M (i : Int)).f4) c ∧
      (∀ v, Ev (fun k => spec_SameProg.j2 k (i : Int) (!c) L T M U) v → Ev (fun k => spec_SameProg.l0 k (i : Int) L T M U) v) := by
  have hk' : (rd_T43 L (i : Int)).f4.length ≤ 1048576 := by
    rw [rd_NI L i hi]
    exact hk _ (List.getElem_mem hi)
  by_cases c0 : (rd_T43 L (i : Int)).f0 = (rd_T43 M (i : Int)).f0
  · by_cases c1 : (rd_T43 L (i : Int)).f1.toList = (rd_T43 M (i : Int)).f1.toList
    · by_cases c2 : (rd_T43 L (i : Int)).f2.toList = (rd_T43 M (i : Int)).f2.toList
      · by_cases c3 : (rd_T43 L (i : Int)).f3 = (rd_T43 M (i : Int)).f3
        · obtain ⟨b, e1, e2⟩ := ints_same (rd_T43 L (i : Int)).f4 (rd_T43 M (i : Int)).f4 hk'
          refine ⟨b, ev_use1 e2 (fun k g => ?_), fun v e => ev_use e1 e (fun k g1 g2 => ?_)⟩
          · unfold impl_SameProg_1.f
            rw [if_pos c0, if_pos c1, if_pos c2, if_pos c3, g, Option.bind_some]
          · simp only [spec_SameProg.l0]
            rw [if_pos (by omega), if_pos (by omega), if_pos (by omega), if_pos c0, if_pos c1, if_pos c2, if_pos c3, g1, Option.bind_some]
            exact g2
        · refine ⟨false, ⟨0, fun k _ => ?_⟩, fun v e => Ev.step (fun k => ?_) e⟩
          · show impl_SameProg_1.f k _ _ _ _ _ _ _ _ _ _ = _
            unfold impl_SameProg_1.f
            rw [if_pos c0, if_pos c1, if_pos c2, if_neg c3]
          · simp only [spec_SameProg.l0]
            rw [if_pos (by omega), if_pos (by omega), if_pos (by omega), if_pos c0, if_pos c1, if_pos c2, if_neg c3]
            rfl
      · refine ⟨false, ⟨0, fun k _ => ?_⟩, fun v e => Ev.step (fun k => ?_) e⟩
        · show impl_SameProg_1.f k _ _ _ _ _ _ _ _ _ _ = _
          unfold impl_SameProg_1.f
          rw [if_pos c0, if_pos c1, if_neg c2]
        · simp only [spec_SameProg.l0]
          rw [if_pos (by omega), if_pos (by omega), if_pos (by omega), if_pos c0, if_pos c1, if_neg c2]
          rfl
    · refine ⟨false, ⟨0, fun k _ => ?_⟩, fun v e => Ev.step (fun k => ?_) e⟩
      · show impl_SameProg_1.f k _ _ _ _ _ _ _ _ _ _ = _
        unfold impl_SameProg_1.f
        rw [if_pos c0, if_neg c1]
      · simp only [spec_SameProg.l0]
        rw [if_pos (by omega), if_pos (by omega), if_pos (by omega), if_pos c0, if_neg c1]
        rfl
  · refine ⟨false, ⟨0, fun k _ => ?_⟩, fun v e => Ev.step (fun k => ?_) e⟩
    · show impl_SameProg_1.f k _ _ _ _ _ _ _ _ _ _ = _
      unfold impl_SameProg_1.f
      rw [if_neg c0]
    · simp only [spec_SameProg.l0]
      rw [if_pos (by omega), if_pos (by omega), if_pos (by omega), if_neg c0]
      rfl
theorem item_step (hT : T.length ≤ 1048576) (hl : T.length = U.length) (hk : ∀ x ∈ T, x.f2.length ≤ 1048576) (i : Nat) (hi : i < T.length) :
    ∃ c, Ev (fun k => impl_SameProg_2.f k (rd_T51 T (i : Int)).f0 (rd_T51 T (i : Int)).f1 (rd_T51 T (i : Int)).f2 (rd_T51 T (i : Int)).f3 (rd_T51 T (i : Int)).f4 (rd_T51 U (i : Int)).f0 (rd_T51 U (i : Int)).f1 (rd_T51 U (i : Int)).f2 (rd_T51 U (i : Int)).f3 (rd_T51 U (i : Int)).f4) c ∧
      (∀ v, Ev (fun k => spec_SameProg.j4 k (i : Int) (!c) L T M U) v → Ev (fun k => spec_SameProg.l1 k (i : Int) L T M U) v) := by
  have hk' : (rd_T51 T (i : Int)).f2.length ≤ 1048576 := by
    rw [rd_II T i hi]
    exact hk _ (List.getElem_mem hi)
  obtain ⟨b, e1, e2⟩ := texts_same (rd_T51 T (i : Int)).f2 (rd_T51 U (i : Int)).f2 hk'
  by_cases c0 : (rd_T51 T (i : Int)).f0 = (rd_T51 U (i : Int)).f0
  · by_cases c1 : (rd_T51 T (i : Int)).f1.toList = (rd_T51 U (i : Int)).f1.toList
    · by_cases c3 : (rd_T51 T (i : Int)).f3 = (rd_T51 U (i : Int)).f3
      · by_cases c4 : (rd_T51 T (i : Int)).f4 = (rd_T51 U (i : Int)).f4
        · refine ⟨b, ev_use1 e2 (fun k g => ?_), fun v e => ev_use e1 e (fun k g1 g2 => ?_)⟩
          · unfold impl_SameProg_2.f
            rw [if_pos c0, if_pos c1, g, Option.bind_some]
            cases b with
            | true => rw [if_pos (rfl : true = true), if_pos c3, c4]; simp
            | false => rw [if_neg (by simp)]
          · simp only [spec_SameProg.l1]
            rw [if_pos (by omega), if_pos (by omega), if_pos (by omega), if_pos c0, if_pos c1, if_pos c3, if_pos c4, g1, Option.bind_some]
            exact g2
        · refine ⟨false, ev_use1 e2 (fun k g => ?_), fun v e => Ev.step (fun k => ?_) e⟩
          · unfold impl_SameProg_2.f
            rw [if_pos c0, if_pos c1, g, Option.bind_some, if_pos c3]
            cases b with
            | true => rw [if_pos (rfl : true = true)]; simp [c4]
            | false => rw [if_neg (by simp)]
          · simp only [spec_SameProg.l1]
            rw [if_pos (by omega), if_pos (by omega), if_pos (by omega), if_pos c0, if_pos c1, if_pos c3, if_neg c4]
            rfl
      · refine ⟨false, ev_use1 e2 (fun k g => ?_), fun v e => Ev.step (fun k => ?_) e⟩
        · unfold impl_SameProg_2.f
          rw [if_pos c0, if_pos c1, g, Option.bind_some, if_neg c3]
          simp
        · simp only [spec_SameProg.l1]
          rw [if_pos (by omega), if_pos (by omega), if_pos (by omega), if_pos c0, if_pos c1, if_neg c3]
          rfl
    · refine ⟨false, ⟨0, fun k _ => ?_⟩, fun v e => Ev.step (fun k => ?_) e⟩
      · show impl_SameProg_2.f k _ _ _ _ _ _ _ _ _ _ = _
        unfold impl_SameProg_2.f
        rw [if_pos c0, if_neg c1]
      · simp only [spec_SameProg.l1]
        rw [if_pos (by omega), if_pos (by omega), if_pos (by omega), if_pos c0, if_neg c1]
        rfl
  · refine ⟨false, ⟨0, fun k _ => ?_⟩, fun v e => Ev.step (fun k => ?_) e⟩
    · show impl_SameProg_2.f k _ _ _ _ _ _ _ _ _ _ = _
      unfold impl_SameProg_2.f
      rw [if_neg c0]
    · simp only [spec_SameProg.l1]
      rw [if_pos (by omega), if_pos (by omega), if_pos (by omega), if_neg c0]
      rfl
theorem nodes_loop (hL : L.length ≤ 1048576) (hl : L.length = M.length) (hk : ∀ x ∈ L, x.f4.length ≤ 1048576) : ∀ (d i : Nat), i + d = L.length →
    ∃ b, Ev (fun k => impl_Node_SameProg_1.l0 k M L (L.length : Int) (i : Int)) b ∧ (b = false → Ev (fun k => spec_SameProg.l0 k (i : Int) L T M U) false) ∧ (b = true → ∀ v, Ev (fun k => spec_SameProg.l1 k 0 L T M U) v → Ev (fun k => spec_SameProg.l0 k (i : Int) L T M U) v) := by
  intro d
  induction d with
  | zero =>
    intro i h
    refine ⟨true, Ev.step (f := fun _ => some _) (fun k => ?_) (Ev.now _), (fun z => by cases z), fun _ v e => Ev.step (fun k => ?_) e⟩
    · simp only [impl_Node_SameProg_1.l0]
      rw [if_neg (by omega)]
    · simp only [spec_SameProg.l0]
      rw [if_neg (by omega)]
  | succ d ih =>
    intro i h
    have hi : i < L.length := by omega
    obtain ⟨c, e1, e2⟩ := node_step L M T U hL hl hk i hi
    cases c with
    | true =>
      obtain ⟨b, f1, f2, f3⟩ := ih (i + 1) (by omega)
      have go : ∀ v, Ev (fun k => spec_SameProg.l0 k ((i + 1 : Nat) : Int) L T M U) v → Ev (fun k => spec_SameProg.l0 k (i : Int) L T M U) v := by
        intro v e
        refine e2 v (Ev.step (fun k => ?_) e)
        simp only [spec_SameProg.j2]
        rw [if_neg (by simp), wrap_nat1 i (by omega)]
      refine ⟨b, ev_use e1 f1 (fun k g1 g2 => ?_), fun z => go _ (f2 z), fun z v e => go _ (f3 z v e)⟩
      simp only [impl_Node_SameProg_1.l0]
      rw [if_pos (by omega), if_pos (by omega), if_pos (by omega), if_pos (by omega), g1, Option.bind_some, if_pos (rfl : true = true), wrap_nat1 i (by omega)]
      exact g2
    | false =>
      refine ⟨false, ev_use e1 (Ev.now ()) (fun k g1 _ => ?_), fun _ => e2 _ (Ev.step (f := fun _ => some _) (fun k => ?_) (Ev.now _)), fun z => by cases z⟩
      · simp only [impl_Node_SameProg_1.l0]
        rw [if_pos (by omega), if_pos (by omega), if_pos (by omega), if_pos (by omega), g1, Option.bind_some, if_neg (by simp)]
      · simp only [spec_SameProg.j2]
        rw [if_pos (by rfl)]
theorem items_loop (hT : T.length ≤ 1048576) (hl : T.length = U.length) (hk : ∀ x ∈ T, x.f2.length ≤ 1048576) : ∀ (d i : Nat), i + d = T.length →
    ∃ b, Ev (fun k => impl_Item_SameProg_2.l0 k U T (T.length : Int) (i : Int)) b ∧ Ev (fun k => spec_SameProg.l1 k (i : Int) L T M U) b := by
  intro d
  induction d with
  | zero =>
    intro i h
    refine ⟨true, Ev.step (f := fun _ => some _) (fun k => ?_) (Ev.now _), Ev.step (f := fun _ => some _) (fun k => ?_) (Ev.now _)⟩
    · simp only [impl_Item_SameProg_2.l0]
      rw [if_neg (by omega)]
    · simp only [spec_SameProg.l1]
      rw [if_neg (by omega)]
  | succ d ih =>
    intro i h
    have hi : i < T.length := by omega
    obtain ⟨c, e1, e2⟩ := item_step L M T U hT hl hk i hi
    cases c with
    | true =>
      obtain ⟨b, f1, f2⟩ := ih (i + 1) (by omega)
      refine ⟨b, ev_use e1 f1 (fun k g1 g2 => ?_), e2 _ (Ev.step (fun k => ?_) f2)⟩
      · simp only [impl_Item_SameProg_2.l0]
        rw [if_pos (by omega), if_pos (by omega), if_pos (by omega), if_pos (by omega), g1, Option.bind_some, if_pos (rfl : true = true), wrap_nat1 i (by omega)]
        exact g2
      · simp only [spec_SameProg.j4]
        rw [if_neg (by simp), wrap_nat1 i (by omega)]
    | false =>
      refine ⟨false, ev_use e1 (Ev.now ()) (fun k g1 _ => ?_), e2 _ (Ev.step (f := fun _ => some _) (fun k => ?_) (Ev.now _))⟩
      · simp only [impl_Item_SameProg_2.l0]
        rw [if_pos (by omega), if_pos (by omega), if_pos (by omega), if_pos (by omega), g1, Option.bind_some, if_neg (by simp)]
      · simp only [spec_SameProg.j4]
        rw [if_pos (by rfl)]
theorem prog_same (hL : L.length ≤ 1048576) (hk : ∀ x ∈ L, x.f4.length ≤ 1048576) (hT : T.length ≤ 1048576) (hk2 : ∀ x ∈ T, x.f2.length ≤ 1048576) :
    ∃ b, Ev (fun k => spec_SameProg.f k L T M U) b ∧ Ev (fun k => impl_SameProg.f k L T M U) b := by
  have no : ∀ b, b = true → Ev (fun k => spec_SameProg.j0 k b L T M U) false := by
    intro b hb
    refine Ev.step (f := fun _ => some _) (fun k => ?_) (Ev.now _)
    simp only [spec_SameProg.j0]
    rw [if_pos hb]
  by_cases c1 : L.length = M.length
  · obtain ⟨b, n1, n2, n3⟩ := nodes_loop L M T U hL c1 hk L.length 0 (by omega)
    have n1' : Ev (fun k => impl_Node_SameProg_1.f k L M) b := by
      refine Ev.congr (fun k => ?_) n1
      unfold impl_Node_SameProg_1.f
      rw [if_pos (by omega)]
      rfl
    by_cases c2 : T.length = U.length
    · obtain ⟨b2, i1, i2⟩ := items_loop L M T U hT c2 hk2 T.length 0 (by omega)
      have go : ∀ v, Ev (fun k => spec_SameProg.l0 k 0 L T M U) v → Ev (fun k => spec_SameProg.f k L T M U) v := by
        intro v e
        have j : Ev (fun k => spec_SameProg.j0 k false L T M U) v := by
          refine Ev.step (fun k => ?_) e
          simp only [spec_SameProg.j0]
          rw [if_neg (by simp)]
        refine Ev.congr (fun k => ?_) j
        unfold spec_SameProg.f
        rw [if_pos (by omega), show ((T.length : Int) != (U.length : Int)) = false by simp [c2]]
      cases b with
      | true =>
        refine ⟨b2, go _ (n3 rfl _ i2), ev_use0 n1' i1 (fun k g1 g2 => ?_)⟩
        unfold impl_SameProg.f
        rw [g1, Option.bind_some, if_pos (rfl : true = true)]
        unfold impl_Item_SameProg_2.f
        rw [if_pos (by omega), show impl_Item_SameProg_2.l0 k U T (T.length : Int) 0 = some b2 from g2, Option.bind_some]
      | false =>
        refine ⟨false, go _ (n2 rfl), ev_use1 n1' (fun k g1 => ?_)⟩
        unfold impl_SameProg.f
        rw [g1, Option.bind_some, if_neg (by simp)]
    · refine ⟨false, Ev.congr (fun k => ?_) (no ((T.length : Int) != (U.length : Int)) (by simp; omega)), ev_use1 n1' (fun k g1 => ?_)⟩
      · unfold spec_SameProg.f
        rw [if_pos (by omega)]
      · unfold impl_SameProg.f
        rw [g1, Option.bind_some]
        cases b with
        | true =>
          rw [if_pos (rfl : true = true)]
          unfold impl_Item_SameProg_2.f
          rw [if_neg (by omega), Option.bind_some]
        | false => rw [if_neg (by simp)]
  · refine ⟨false, Ev.congr (fun k => ?_) (no true rfl), ⟨0, fun k _ => ?_⟩⟩
    · unfold spec_SameProg.f
      rw [if_neg (by omega)]
    · show impl_SameProg.f k L T M U = _
      unfold impl_SameProg.f impl_Node_SameProg_1.f
      rw [if_neg (by omega), Option.bind_some, if_neg (by simp)]
end
end Go.Proofs.Ytmddcohelcciaab.PFnExactSameProg
