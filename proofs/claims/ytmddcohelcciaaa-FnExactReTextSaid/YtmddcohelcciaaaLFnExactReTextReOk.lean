/- A regular expression's nodes: when they are valid. -/
import Derived.Test.YtmddcohelcciaaaPFnExactReTextx
import Derived.Test.YtmddcohelcciaaaLFnExactReTextReRow
import Derived.Test.YtmddcohelcciaaaXLem
namespace Go.Proofs.Ytmddcohelcciaaa.PFnExactReText
set_option linter.unusedVariables false
set_option linter.unusedSimpArgs false
open Go.RowKit Go.Proofs.YtmddcohelcciaaaW.PrintWords Go.Proofs.YtmddcohelcciaaaW.PrintLast Go.Proofs.YtmddcohelcciaaaW.PrintMore Go.Proofs.Ytmddcohelcciaaa.XL

theorem size_nil (s : ByteArray) : s.toList = ([] : List UInt8) ↔ s.size = 0 := by
  rw [toList_data]
  constructor
  · intro h
    have : s.data.toList.length = 0 := by rw [h]; rfl
    simpa using this
  · intro h
    apply List.eq_nil_of_length_eq_zero
    rw [Array.length_toList]
    exact h
theorem beq_nil (s : ByteArray) : (s.toList == ([] : List UInt8)) = decide (s.size = 0) := by
  by_cases h : s.size = 0
  · rw [(size_nil s).2 h, decide_eq_true h]
    rfl
  · rw [decide_eq_false h]
    exact beq_false_of_ne (fun e => h ((size_nil s).1 e))
theorem bne_nil (s : ByteArray) : (s.toList != ([] : List UInt8)) = !decide (s.size = 0) := by
  unfold bne
  rw [beq_nil]
/-- The pairs of a set, from place i on. -/
theorem pairs (s : ByteArray) (a : Int) (b : Bool) (l : List Int) (hs : s.size ≤ 1048576) : ∀ (d i : Nat), i + 2 * d = s.size → ∃ v, Ev (fun k => spec_l2pairs.l0 k (i : Int) a b s l) v ∧ Ev (fun k => impl_isReNode.l0 k (i : Int) a b s l) v := by
  intro d
  induction d with
  | zero =>
    intro i h
    refine ⟨true, Ev.step (f := fun _ => some _) (fun k => ?_) (Ev.now _), Ev.step (f := fun _ => some _) (fun k => ?_) (Ev.now _)⟩
    · simp only [spec_l2pairs.l0]
      rw [wrap_nat1 i (by omega), if_neg (by omega)]
    · simp only [impl_isReNode.l0]
      rw [if_neg (by omega)]
  | succ d ih =>
    intro i h
    by_cases c : bt s ((i + 1 : Nat) : Int) < bt s (i : Int)
    · refine ⟨false, Ev.step (f := fun _ => some _) (fun k => ?_) (Ev.now _), Ev.step (f := fun _ => some _) (fun k => ?_) (Ev.now _)⟩
      · simp only [spec_l2pairs.l0]
        rw [wrap_nat1 i (by omega), if_pos (by omega), if_pos (by omega), if_pos (by omega), if_pos (by omega), if_pos c]
      · simp only [impl_isReNode.l0]
        rw [if_pos (by omega), wrap_nat1 i (by omega), if_pos (by omega), if_pos (by omega), if_pos (by omega), if_pos c]
    · obtain ⟨v, e1, e2⟩ := ih (i + 2) (by omega)
      refine ⟨v, Ev.step (fun k => ?_) e1, Ev.step (fun k => ?_) e2⟩
      · simp only [spec_l2pairs.l0]
        rw [wrap_nat1 i (by omega), if_pos (by omega), if_pos (by omega), if_pos (by omega), if_pos (by omega), if_neg c, show ((i : Int) + 2) = (i : Int) + ((2 : Nat) : Int) by omega, wrap_nat i 2 (by omega)]
      · simp only [impl_isReNode.l0]
        rw [if_pos (by omega), wrap_nat1 i (by omega), if_pos (by omega), if_pos (by omega), if_pos (by omega), if_neg c, show ((i : Int) + 2) = (i : Int) + ((2 : Nat) : Int) by omega, wrap_nat i 2 (by omega)]
/-- What a valid node is. -/
def Fine (x : S39) : Prop := (x.f0 = 0 ∧ x.f2.size % 2 = 0 ∧ x.f3.length = 0 ∧ ¬ (x.f2.size = 0 ∧ x.f1 = false)) ∨ ((x.f0 = 1 ∨ x.f0 = 2) ∧ x.f3.length = 0) ∨ ((x.f0 = 3 ∨ x.f0 = 4) ∧ 2 ≤ x.f3.length) ∨ ((x.f0 = 5 ∨ x.f0 = 6 ∨ x.f0 = 7) ∧ x.f3.length = 1)
/-- What a node that is no set must be. -/
def kindB (x : S39) : Bool := if x.f0 = 1 ∨ x.f0 = 2 then decide (x.f3.length = 0) else if x.f0 = 3 ∨ x.f0 = 4 then decide (2 ≤ x.f3.length) else if x.f0 = 5 ∨ x.f0 = 6 ∨ x.f0 = 7 then decide (x.f3.length = 1) else false
theorem kind_fine (x : S39) (h : kindB x = true) : Fine x := by
  unfold kindB at h
  split at h
  · rename_i c
    exact .inr (.inl ⟨c, of_decide_eq_true h⟩)
  · split at h
    · rename_i c
      exact .inr (.inr (.inl ⟨c, of_decide_eq_true h⟩))
    · split at h
      · rename_i c
        exact .inr (.inr (.inr ⟨c, of_decide_eq_true h⟩))
      · cases h
theorem kind_12 {x : S39} (h : x.f0 = 1 ∨ x.f0 = 2) : kindB x = decide (x.f3.length = 0) := by
  unfold kindB
  rw [if_pos h]
theorem kind_34 {x : S39} (h : x.f0 = 3 ∨ x.f0 = 4) : kindB x = decide (2 ≤ x.f3.length) := by
  unfold kindB
  rw [if_neg (by omega), if_pos h]
theorem kind_567 {x : S39} (h : x.f0 = 5 ∨ x.f0 = 6 ∨ x.f0 = 7) : kindB x = decide (x.f3.length = 1) := by
  unfold kindB
  rw [if_neg (by omega), if_neg (by omega), if_pos h]
theorem kind_no {x : S39} (h : x.f0 < 1 ∨ 7 < x.f0) : kindB x = false := by
  unfold kindB
  rw [if_neg (by omega), if_neg (by omega), if_neg (by omega)]
theorem impl_kind (x : S39) (h0 : x.f0 ≠ 0) : Ev (fun k => impl_isReNode.j0 k false x.f0 x.f1 x.f2 x.f3) (kindB x) := by
  have j2 : ∀ b : Bool, (b = true → x.f0 = 3 ∨ x.f0 = 4) → (b = false → ¬ (x.f0 = 3 ∨ x.f0 = 4)) → ¬ (x.f0 = 1 ∨ x.f0 = 2) → Ev (fun k => impl_isReNode.j2 k x.f0 b x.f0 x.f1 x.f2 x.f3) (kindB x) := by
    intro b hb hb2 hn
    refine Ev.step (f := fun _ => some _) (fun k => ?_) (Ev.now _)
    simp only [impl_isReNode.j2]
    unfold kindB
    rw [if_neg hn]
    cases b with
    | true =>
      rw [if_pos rfl, if_pos (hb rfl)]
      congr 1
      exact decide_eq_decide.2 (by omega)
    | false =>
      rw [if_neg (by simp), if_neg (hb2 rfl)]
      by_cases c5 : x.f0 = 5
      · rw [if_pos c5, if_pos (.inl c5)]
        congr 1
        rw [Bool.eq_iff_iff]
        simp
        omega
      · rw [if_neg c5]
        by_cases c6 : x.f0 = 6
        · rw [if_pos c6, if_pos (.inr (.inl c6))]
          congr 1
          rw [Bool.eq_iff_iff]
          simp
          omega
        · rw [if_neg c6]
          by_cases c7 : x.f0 = 7
          · rw [if_pos c7, if_pos (.inr (.inr c7))]
            congr 1
            rw [Bool.eq_iff_iff]
            simp
            omega
          · rw [if_neg c7, if_neg (by omega)]
  have j1 : ∀ b : Bool, (b = true → x.f0 = 1 ∨ x.f0 = 2) → (b = false → ¬ (x.f0 = 1 ∨ x.f0 = 2)) → Ev (fun k => impl_isReNode.j1 k x.f0 b x.f0 x.f1 x.f2 x.f3) (kindB x) := by
    intro b hb hb2
    cases b with
    | true =>
      refine Ev.step (f := fun _ => some _) (fun k => ?_) (Ev.now _)
      simp only [impl_isReNode.j1]
      unfold kindB
      rw [if_pos trivial, if_pos (hb rfl)]
      congr 1
      rw [Bool.eq_iff_iff]
      simp
    | false =>
      by_cases c3 : x.f0 = 3
      · refine Ev.step (fun k => ?_) (j2 (x.f0 == 3) (fun _ => .inl c3) (fun z => absurd c3 (by simpa using z)) (hb2 rfl))
        simp only [impl_isReNode.j1]
        rw [if_neg (by simp), if_pos c3]
      · refine Ev.step (fun k => ?_) (j2 (x.f0 == 4) (fun z => .inr (by simpa using z)) (fun z q => by simp at z; omega) (hb2 rfl))
        simp only [impl_isReNode.j1]
        rw [if_neg (by simp), if_neg c3]
  by_cases c1 : x.f0 = 1
  · refine Ev.step (fun k => ?_) (j1 (x.f0 == 1) (fun _ => .inl c1) (fun z => absurd c1 (by simpa using z)))
    simp only [impl_isReNode.j0]
    rw [if_neg (by simp), if_pos c1]
  · refine Ev.step (fun k => ?_) (j1 (x.f0 == 2) (fun z => .inr (by simpa using z)) (fun z q => by simp at z; omega))
    simp only [impl_isReNode.j0]
    rw [if_neg (by simp), if_neg c1]
theorem spec_kind (x : S39) (h0 : x.f0 ≠ 0) : Ev (fun k => spec_l2kidsOk.f k x.f0 x.f1 x.f2 x.f3) (kindB x && !x.f1 && decide (x.f2.size = 0)) := by
  have fin : ∀ (c : Bool), (if c = true then (if x.f1 = true then some false else some (x.f2.toList == ([] : List UInt8))) else some false) = some (c && !x.f1 && decide (x.f2.size = 0)) := by
    intro c
    rw [beq_nil]
    cases c <;> cases x.f1 <;> simp
  have j1 : ∀ b : Bool, (b = true → x.f0 = 3 ∨ x.f0 = 4) → (b = false → ¬ (x.f0 = 3 ∨ x.f0 = 4)) → ¬ (x.f0 = 1 ∨ x.f0 = 2) → Ev (fun k => spec_l2kidsOk.j1 k x.f0 b x.f0 x.f1 x.f2 x.f3) (kindB x && !x.f1 && decide (x.f2.size = 0)) := by
    intro b hb hb2 hn
    refine Ev.step (f := fun _ => some _) (fun k => ?_) (Ev.now _)
    simp only [spec_l2kidsOk.j1]
    cases b with
    | true =>
      rw [kind_34 (hb rfl), ← fin, if_pos rfl]
      simp only [decide_eq_true_eq]
      by_cases hl : 2 ≤ x.f3.length
      · rw [if_pos (by omega), if_pos hl]
      · rw [if_neg (by omega), if_neg hl]
    | false =>
      rw [if_neg (by simp)]
      by_cases h5 : x.f0 = 5 ∨ x.f0 = 6 ∨ x.f0 = 7
      · rw [kind_567 h5, ← fin]
        simp only [decide_eq_true_eq]
        by_cases hl : x.f3.length = 1
        · have hl' : (x.f3.length : Int) = 1 := by omega
          rcases h5 with h5 | h5 | h5 <;> simp [h5, hl, hl']
        · have hl' : ¬ (x.f3.length : Int) = 1 := by omega
          rcases h5 with h5 | h5 | h5 <;> simp [h5, hl, hl']
      · rw [kind_no (by have := hb2 rfl; omega), if_neg (by omega), if_neg (by omega), if_neg (by omega)]
        rfl
  have j0 : ∀ b : Bool, (b = true → x.f0 = 1 ∨ x.f0 = 2) → (b = false → ¬ (x.f0 = 1 ∨ x.f0 = 2)) → Ev (fun k => spec_l2kidsOk.j0 k x.f0 b x.f0 x.f1 x.f2 x.f3) (kindB x && !x.f1 && decide (x.f2.size = 0)) := by
    intro b hb hb2
    cases b with
    | true =>
      refine Ev.step (f := fun _ => some _) (fun k => ?_) (Ev.now _)
      simp only [spec_l2kidsOk.j0]
      rw [kind_12 (hb rfl), ← fin, if_pos trivial]
      simp only [decide_eq_true_eq]
      by_cases hl : x.f3.length = 0
      · rw [if_pos (by omega), if_pos hl]
      · rw [if_neg (by omega), if_neg hl]
    | false =>
      by_cases c3 : x.f0 = 3
      · refine Ev.step (fun k => ?_) (j1 (x.f0 == 3) (fun _ => .inl c3) (fun z => absurd c3 (by simpa using z)) (hb2 rfl))
        simp only [spec_l2kidsOk.j0]
        rw [if_neg (by simp), if_pos c3]
      · refine Ev.step (fun k => ?_) (j1 (x.f0 == 4) (fun z => .inr (by simpa using z)) (fun z q => by simp at z; omega) (hb2 rfl))
        simp only [spec_l2kidsOk.j0]
        rw [if_neg (by simp), if_neg c3]
  by_cases c1 : x.f0 = 1
  · refine Ev.congr (fun k => ?_) (j0 (x.f0 == 1) (fun _ => .inl c1) (fun z => absurd c1 (by simpa using z)))
    unfold spec_l2kidsOk.f
    rw [if_neg h0, if_pos c1]
  · refine Ev.congr (fun k => ?_) (j0 (x.f0 == 2) (fun z => .inr (by simpa using z)) (fun z q => by simp at z; omega))
    unfold spec_l2kidsOk.f
    rw [if_neg h0, if_neg c1]
theorem node_same (x : S39) (hs : x.f2.size ≤ 1048576) : ∃ v, Ev (fun k => spec_l2kidsOk.f k x.f0 x.f1 x.f2 x.f3) v ∧ Ev (fun k => impl_isReNode.f k x.f0 x.f1 x.f2 x.f3) v ∧ (v = true → Fine x) := by
  by_cases h0 : x.f0 = 0
  · by_cases hk : x.f3.length = 0
    · have j3 : ∀ b : Bool, ∀ v, (b = true → v = false) → (b = false → Ev (fun k => impl_isReNode.l0 k 0 x.f0 x.f1 x.f2 x.f3) v) → Ev (fun k => impl_isReNode.j3 k b x.f0 x.f1 x.f2 x.f3) v := by
        intro b v h1 h2
        cases b with
        | true =>
          rw [h1 rfl]
          refine Ev.step (f := fun _ => some _) (fun k => ?_) (Ev.now _)
          simp only [impl_isReNode.j3]
          rw [if_pos trivial]
        | false =>
          refine Ev.step (fun k => ?_) (h2 rfl)
          simp only [impl_isReNode.j3]
          rw [if_neg (by simp)]
      have s0 : ∀ b : Bool, ∀ v, (b = true → v = false) → (b = false → Ev (fun k => spec_l2pairs.l0 k 0 x.f0 x.f1 x.f2 x.f3) v) → Ev (fun k => spec_l2pairs.j0 k b x.f0 x.f1 x.f2 x.f3) v := by
        intro b v h1 h2
        cases b with
        | true =>
          rw [h1 rfl]
          refine Ev.step (f := fun _ => some _) (fun k => ?_) (Ev.now _)
          simp only [spec_l2pairs.j0]
          rw [if_pos trivial]
        | false =>
          refine Ev.step (fun k => ?_) (h2 rfl)
          simp only [spec_l2pairs.j0]
          rw [if_neg (by simp)]
      by_cases hp : x.f2.size % 2 = 0
      · obtain ⟨v, e1, e2⟩ := pairs x.f2 x.f0 x.f1 x.f3 hs (x.f2.size / 2) 0 (by omega)
        by_cases hz : x.f2.size = 0
        · refine ⟨if x.f1 = true then v else false, ?_, ?_, ?_⟩
          · refine Ev.congr (fun k => ?_) (s0 (!x.f1) _ (fun z => by simp at z; rw [z]; rfl) (fun z => by simp at z; rw [if_pos z]; exact e1))
            unfold spec_l2kidsOk.f spec_l2pairs.f
            rw [if_pos h0, if_pos (by omega), if_neg (by omega), if_pos (by omega)]
            simp
          · refine Ev.congr (fun k => ?_) (j3 (!x.f1) _ (fun z => by simp at z; rw [z]; rfl) (fun z => by simp at z; rw [if_pos z]; exact e2))
            unfold impl_isReNode.f
            rw [if_pos h0, if_pos (by omega), if_neg (by omega), if_pos ((size_nil _).2 hz)]
          · intro hv
            refine .inl ⟨h0, hp, hk, fun z => ?_⟩
            rw [z.2] at hv
            cases hv
        · refine ⟨v, ?_, ?_, fun _ => .inl ⟨h0, hp, hk, fun z => hz z.1⟩⟩
          · refine Ev.congr (fun k => ?_) (s0 false _ (fun z => by cases z) (fun _ => e1))
            unfold spec_l2kidsOk.f spec_l2pairs.f
            rw [if_pos h0, if_pos (by omega), if_neg (by omega), if_neg (by omega)]
            simp
          · refine Ev.congr (fun k => ?_) (j3 false _ (fun z => by cases z) (fun _ => e2))
            unfold impl_isReNode.f
            rw [if_pos h0, if_pos (by omega), if_neg (by omega), if_neg (fun z => hz ((size_nil _).1 z))]
      · refine ⟨false, ?_, ?_, fun z => by cases z⟩
        · refine Ev.congr (fun k => ?_) (s0 true false (fun _ => rfl) (fun z => by cases z))
          unfold spec_l2kidsOk.f spec_l2pairs.f
          rw [if_pos h0, if_pos (by omega), if_pos (by omega)]
          simp
        · refine Ev.congr (fun k => ?_) (j3 true false (fun _ => rfl) (fun z => by cases z))
          unfold impl_isReNode.f
          rw [if_pos h0, if_neg (by omega)]
    · refine ⟨false, ⟨0, fun k _ => ?_⟩, ?_, fun z => by cases z⟩
      · show spec_l2kidsOk.f k x.f0 x.f1 x.f2 x.f3 = _
        unfold spec_l2kidsOk.f
        rw [if_pos h0, if_neg (by omega)]
      · have j3 : Ev (fun k => impl_isReNode.j3 k true x.f0 x.f1 x.f2 x.f3) false := by
          refine Ev.step (f := fun _ => some _) (fun k => ?_) (Ev.now _)
          simp only [impl_isReNode.j3]
          rw [if_pos trivial]
        refine Ev.congr (fun k => ?_) j3
        unfold impl_isReNode.f
        rw [if_pos h0]
        by_cases hp : x.f2.size % 2 = 0
        · rw [if_pos (by omega), if_pos (by omega)]
        · rw [if_neg (by omega)]
  · refine ⟨kindB x && !x.f1 && decide (x.f2.size = 0), spec_kind x h0, ?_, fun z => kind_fine x (by simp only [Bool.and_eq_true] at z; exact z.1.1)⟩
    have yes : Ev (fun k => impl_isReNode.j0 k true x.f0 x.f1 x.f2 x.f3) false := by
      refine Ev.step (f := fun _ => some _) (fun k => ?_) (Ev.now _)
      simp only [impl_isReNode.j0]
      rw [if_pos trivial]
    by_cases hn : x.f1 = true
    · rw [show (kindB x && !x.f1 && decide (x.f2.size = 0)) = false by rw [hn]; simp]
      refine Ev.congr (fun k => ?_) yes
      unfold impl_isReNode.f
      rw [if_neg h0, if_pos hn]
    · by_cases hz : x.f2.size = 0
      · rw [show (kindB x && !x.f1 && decide (x.f2.size = 0)) = kindB x by rw [decide_eq_true hz, show x.f1 = false by simpa using hn]; simp]
        refine Ev.congr (fun k => ?_) (impl_kind x h0)
        unfold impl_isReNode.f
        rw [if_neg h0, if_neg hn, bne_nil, decide_eq_true hz]
        rfl
      · rw [show (kindB x && !x.f1 && decide (x.f2.size = 0)) = false by rw [decide_eq_false hz]; simp]
        refine Ev.congr (fun k => ?_) yes
        unfold impl_isReNode.f
        rw [if_neg h0, if_neg hn, bne_nil, decide_eq_false hz]
        rfl
end Go.Proofs.Ytmddcohelcciaaa.PFnExactReText
