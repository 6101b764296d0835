/- The length of texts with blanks between them, as the reference counts it. -/
import Derived.Test.YtegllcjlngdijaaXJoin
import Derived.Test.YtegllcjlngdijaaPFnExactPutFieldx
namespace Go.Proofs.Ytegllcjlngdijaa.PFnExactPutField
set_option linter.unusedVariables false
set_option linter.unusedSimpArgs false
open Go.RowKit Go.Proofs.YtegllcjlngdijaaW.PrintWords Go.Proofs.YtegllcjlngdijaaW.PrintLast Go.Proofs.YtegllcjlngdijaaW.PrintMore Go.Proofs.Ytegllcjlngdijaa.XL
theorem size_loop {L : List ByteArray} : ∀ (d i n : Nat), i + d = L.length → 1 ≤ i → L.length ≤ 1000000000 → n + (tailJ (L.drop i)).length ≤ 1000000000 →
    ∃ r, Ev (fun k => spec_l8size.l0 k L (n : Int) (i : Int)) r ∧ (r > 500 ↔ n + (tailJ (L.drop i)).length > 500) := by
  intro d
  induction d with
  | zero =>
    intro i n h h1 hl ha
    refine ⟨(n : Int), Ev.step (f := fun _ => some _) (fun k => ?_) (Ev.now _), ?_⟩
    · simp only [spec_l8size.l0]
      rw [if_neg (by omega)]
    · rw [List.drop_of_length_le (by omega)]
      simp [tailJ]
      omega
  | succ d ih =>
    intro i n h h1 hl ha
    have hi : i < L.length := by omega
    rw [tailJ_drop L i hi] at ha ⊢
    rw [List.cons_append, List.length_cons, List.length_append, data_size] at ha
    by_cases hbig : (L[i].size : Int) > 500
    · refine ⟨501, Ev.step (f := fun _ => some _) (fun k => ?_) (Ev.now _), ?_⟩
      · simp only [spec_l8size.l0]
        rw [if_pos (by omega), if_pos (by omega), if_pos (by omega), rd_str L i hi, if_pos hbig]
      · rw [List.cons_append, List.length_cons, List.length_append, data_size]
        constructor
        · intro _; omega
        · intro _; omega
    · obtain ⟨r, e, hr⟩ := ih (i + 1) (n + 1 + L[i].size) (by omega) (by omega) hl (by omega)
      refine ⟨r, Ev.step (fun k => ?_) e, ?_⟩
      · simp only [spec_l8size.l0]
        rw [if_pos (by omega), if_pos (by omega), if_pos (by omega), rd_str L i hi, if_neg hbig, wrap_nat1 n (by omega), wrap_nat (n + 1) L[i].size (by omega), wrap_nat1 i (by omega)]
      · rw [hr, List.cons_append, List.length_cons, List.length_append, data_size]
        constructor
        · intro _; omega
        · intro _; omega
theorem size_all {L : List ByteArray} (hL : L.length + sumS L ≤ 100000000) : ∃ r, Ev (fun k => spec_l8size.f k L) r ∧ (r > 500 ↔ (joinV L).length > 500) := by
  cases L with
  | nil =>
    refine ⟨0, ⟨1, fun k hk => ?_⟩, by simp [joinV, Lib.join]⟩
    obtain ⟨k, rfl⟩ : ∃ m, k = m + 1 := ⟨k - 1, by omega⟩
    rfl
  | cons x l =>
    have ht := tailJ_length l
    have hsum : sumS (x :: l) = x.size + sumS l := by simp [sumS]
    rw [List.length_cons, hsum] at hL
    rw [join_cons, List.length_append, data_size]
    by_cases hbig : (x.size : Int) > 500
    · refine ⟨501, ⟨1, fun k hk => ?_⟩, by omega⟩
      obtain ⟨k, rfl⟩ : ∃ m, k = m + 1 := ⟨k - 1, by omega⟩
      show spec_l8size.f (k + 1) (x :: l) = _
      unfold spec_l8size.f
      simp only [spec_l8size.l0]
      rw [if_pos (by rw [List.length_cons]; omega), if_neg (by omega), if_pos (by omega), show rdOf ByteArray.empty (x :: l) 0 = x from rfl, if_pos hbig]
    · obtain ⟨r, e, hr⟩ := size_loop (L := x :: l) l.length 1 x.size (by simp; omega) (by omega) (by rw [List.length_cons]; omega) (by rw [List.drop_one, List.tail_cons]; omega)
      rw [List.drop_one, List.tail_cons] at hr
      refine ⟨r, Ev.congr (fun k => ?_) (Ev.step (g := fun k => spec_l8size.l0 k (x :: l) 0 0) (fun k => ?_) e), by rw [hr]⟩
      · rfl
      · simp only [spec_l8size.l0]
        rw [if_pos (by rw [List.length_cons]; omega), if_neg (by omega), if_pos (by omega), show rdOf ByteArray.empty (x :: l) 0 = x from rfl, if_neg hbig, wrap_id (n := 0 + (x.size : Int)) (by omega) (by omega), Int.zero_add, show wrap64 (0 + 1) = ((1 : Nat) : Int) from wrap_nat1 0 (by omega)]
end Go.Proofs.Ytegllcjlngdijaa.PFnExactPutField
