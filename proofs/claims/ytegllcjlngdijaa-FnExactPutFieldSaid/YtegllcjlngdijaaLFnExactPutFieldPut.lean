/- PutField: fields with another one in a place, in the program and in the reference. -/
import Derived.Test.YtegllcjlngdijaaXJoin
import Derived.Test.YtegllcjlngdijaaPFnExactPutFieldx
import Derived.Test.YtegllcjlngdijaaLFnExactPutFieldSize
namespace Go.Proofs.Ytegllcjlngdijaa.PFnExactPutField
set_option linter.unusedVariables false
set_option linter.unusedSimpArgs false
open Go.RowKit Go.Proofs.YtegllcjlngdijaaW.PrintWords Go.Proofs.YtegllcjlngdijaaW.PrintLast Go.Proofs.YtegllcjlngdijaaW.PrintMore Go.Proofs.Ytegllcjlngdijaa.XL

def put (L : List ByteArray) (i : Nat) (s : ByteArray) : List ByteArray := (L ++ List.replicate (i - L.length) (⟨#[]⟩ : ByteArray)).set (i - 1) s
theorem put_length (L : List ByteArray) (i : Nat) (s : ByteArray) : (put L i s).length = L.length + (i - L.length) := by
  unfold put
  rw [List.length_set, List.length_append, List.length_replicate]
theorem sumS_append (A B : List ByteArray) : sumS (A ++ B) = sumS A + sumS B := by simp [sumS]
theorem sumS_rep (n : Nat) : sumS (List.replicate n (⟨#[]⟩ : ByteArray)) = 0 := by
  induction n with
  | zero => rfl
  | succ n ih => rw [List.replicate_succ]; simp only [sumS, List.map_cons, List.sum_cons] at ih ⊢; rw [ih]; rfl
theorem sumS_set (A : List ByteArray) (s : ByteArray) : ∀ i, sumS (A.set i s) ≤ sumS A + s.size := by
  induction A with
  | nil => intro i; simp [sumS]
  | cons x l ih =>
    intro i
    cases i with
    | zero => simp [sumS]; omega
    | succ i => have := ih i; simp only [List.set_cons_succ, sumS, List.map_cons, List.sum_cons] at this ⊢; omega
theorem put_sum (L : List ByteArray) (i : Nat) (s : ByteArray) : sumS (put L i s) ≤ sumS L + s.size := by
  unfold put
  have := sumS_set (L ++ List.replicate (i - L.length) (⟨#[]⟩ : ByteArray)) s (i - 1)
  rw [sumS_append, sumS_rep] at this
  exact this
def putV (L : List ByteArray) (i : Int) (s : ByteArray) : List ByteArray × Bool :=
  if (1 ≤ i ∧ i ≤ 50) ∧ L.length ≤ 50 then (if (joinV (put L i.toNat s)).length ≤ 500 then (put L i.toNat s, true) else ([], false)) else ([], false)
section
variable {L : List ByteArray} {s : ByteArray} (hsum : sumS L + s.size ≤ 10000000)
include hsum
omit hsum in
theorem join_fields {M : List ByteArray} (h1 : M.length ≤ 50) (h2 : sumS M ≤ 10000000) : impl_joinFields.f M = some (ba (joinV M), decide ((joinV M).length ≤ 500)) := by
  have hjl := join_length M
  unfold impl_joinFields.f strings_Join.f
  have hb : M.length ≤ 140737488355328 ∧ (Lib.join (M.map (·.data.toList)) (⟨#[32]⟩ : ByteArray).data.toList).length ≤ 140737488355328 := ⟨by omega, by
    have : (joinV M).length ≤ 140737488355328 := by omega
    exact this⟩
  rw [if_neg (by omega), if_pos hb, Option.bind_some]
  show some (ba (joinV M), decide (((ba (joinV M)).size : Int) ≤ 500)) = _
  rw [ba_size]
  congr 2
  apply decide_eq_decide.2
  omega
theorem impl_pad (i : Nat) (h1 : 1 ≤ i) (h50 : i ≤ 50) : ∀ (d : Nat) (M : List ByteArray), i - M.length = d → M.length ≤ 50 → M ++ List.replicate (i - M.length) (⟨#[]⟩ : ByteArray) = L ++ List.replicate (i - L.length) (⟨#[]⟩ : ByteArray) →
    Ev (fun k => impl_PutField.l0 k (i : Int) s M) (if (joinV (put L i s)).length ≤ 500 then (put L i s, true) else ([], false)) := by
  intro d
  induction d with
  | zero =>
    intro M hd hM he
    rw [hd, List.replicate_zero, List.append_nil] at he
    refine Ev.step (f := fun _ => some _) (fun k => ?_) (Ev.now _)
    have hp : M.set (i - 1) s = put L i s := by unfold put; rw [he]
    simp only [impl_PutField.l0]
    rw [if_neg (by omega), wrap_id (n := (i : Int) - 1) (by omega) (by omega), if_pos (by omega), if_pos (by omega), Option.bind_some, show ((i : Int) - 1).toNat = i - 1 by omega, hp, join_fields (by rw [← hp, List.length_set]; exact hM) (Nat.le_trans (put_sum L i s) hsum), Option.bind_some]
    by_cases hj : (joinV (put L i s)).length ≤ 500
    · rw [if_pos hj, decide_eq_true hj]; rfl
    · rw [if_neg hj, decide_eq_false hj]; rfl
  | succ d ih =>
    intro M hd hM he
    have he2 : (M ++ [(⟨#[]⟩ : ByteArray)]) ++ List.replicate (i - (M ++ [(⟨#[]⟩ : ByteArray)]).length) (⟨#[]⟩ : ByteArray) = L ++ List.replicate (i - L.length) (⟨#[]⟩ : ByteArray) := by
      rw [← he, List.length_append, List.length_singleton, show i - M.length = (i - (M.length + 1)) + 1 by omega, List.replicate_succ]
      simp
    refine Ev.step (fun k => ?_) (ih (M ++ [(⟨#[]⟩ : ByteArray)]) (by rw [List.length_append]; simp; omega) (by rw [List.length_append]; simp; omega) he2)
    simp only [impl_PutField.l0]
    rw [if_pos (by omega), if_pos (by omega)]
theorem spec_pad (i : Nat) (h1 : 1 ≤ i) (h50 : i ≤ 50) : ∀ (d : Nat) (M : List ByteArray), i - M.length = d → M.length ≤ 50 → M ++ List.replicate (i - M.length) (⟨#[]⟩ : ByteArray) = L ++ List.replicate (i - L.length) (⟨#[]⟩ : ByteArray) →
    Ev (fun k => spec_PutField.l0 k (i : Int) s M) (if (joinV (put L i s)).length ≤ 500 then (put L i s, true) else ([], false)) := by
  intro d
  induction d with
  | zero =>
    intro M hd hM he
    rw [hd, List.replicate_zero, List.append_nil] at he
    have hp : M.set (i - 1) s = put L i s := by unfold put; rw [he]
    have hpl : (put L i s).length ≤ 50 := by rw [← hp, List.length_set]; exact hM
    have hps := put_sum L i s
    obtain ⟨r, er, hr⟩ := size_all (L := put L i s) (by omega)
    refine ev_use er (Ev.now (0 : Nat)) (fun k g1 _ => ?_)
    simp only [spec_PutField.l0]
    rw [if_neg (by omega), wrap_id (n := (i : Int) - 1) (by omega) (by omega), if_pos (by omega), if_pos (by omega), Option.bind_some, show ((i : Int) - 1).toNat = i - 1 by omega, hp, g1, Option.bind_some]
    by_cases hj : (joinV (put L i s)).length ≤ 500
    · rw [if_pos hj, if_neg (fun z => by have := hr.1 z; omega)]
    · rw [if_neg hj, if_pos (hr.2 (by omega))]
  | succ d ih =>
    intro M hd hM he
    have he2 : (M ++ [(⟨#[]⟩ : ByteArray)]) ++ List.replicate (i - (M ++ [(⟨#[]⟩ : ByteArray)]).length) (⟨#[]⟩ : ByteArray) = L ++ List.replicate (i - L.length) (⟨#[]⟩ : ByteArray) := by
      rw [← he, List.length_append, List.length_singleton, show i - M.length = (i - (M.length + 1)) + 1 by omega, List.replicate_succ]
      simp
    refine Ev.step (fun k => ?_) (ih (M ++ [(⟨#[]⟩ : ByteArray)]) (by rw [List.length_append]; simp; omega) (by rw [List.length_append]; simp; omega) he2)
    simp only [spec_PutField.l0]
    rw [if_pos (by omega), if_pos (by omega)]
theorem impl_put (i : Int) (hLl : L.length ≤ 1000000000) : Ev (fun k => impl_PutField.f k L i s) (putV L i s) := by
  have bad : ∀ k, impl_PutField.j0 (k + 1) L i s true = some ([], false) := fun k => by simp only [impl_PutField.j0]; rw [if_pos (by trivial)]
  unfold putV
  by_cases hi : 1 ≤ i ∧ i ≤ 50
  · have hb : impl_between.f i 1 50 = some true := by unfold impl_between.f; rw [if_pos (by omega), decide_eq_true (by omega)]
    by_cases hl : L.length ≤ 50
    · rw [if_pos ⟨hi, hl⟩]
      obtain ⟨n, rfl⟩ := Int.eq_ofNat_of_zero_le (show 0 ≤ i by omega)
      have hp := impl_pad hsum n (by omega) (by omega) (n - L.length) L rfl hl rfl
      refine Ev.congr (fun k => ?_) (Ev.step (g := fun k => impl_PutField.j0 k L (n : Int) s false) (fun k => ?_) hp)
      · unfold impl_PutField.f
        rw [hb, Option.bind_some, if_pos (rfl : true = true), decide_eq_false (by omega)]
      · simp only [impl_PutField.j0]
        unfold slices_Clone_string_string.f
        rw [if_neg (by simp), if_pos (by omega), Option.bind_some]
    · rw [if_neg (fun z => hl z.2)]
      refine ⟨1, fun k hk => ?_⟩
      obtain ⟨k, rfl⟩ : ∃ m, k = m + 1 := ⟨k - 1, by omega⟩
      show impl_PutField.f (k + 1) L i s = _
      unfold impl_PutField.f
      rw [hb, Option.bind_some, if_pos (rfl : true = true), decide_eq_true (by omega)]
      exact bad k
  · rw [if_neg (fun z => hi z.1)]
    have hb : impl_between.f i 1 50 = some false := by
      unfold impl_between.f
      by_cases g : i ≥ 1
      · rw [if_pos g, decide_eq_false (by omega)]
      · rw [if_neg g]
    refine ⟨1, fun k hk => ?_⟩
    obtain ⟨k, rfl⟩ : ∃ m, k = m + 1 := ⟨k - 1, by omega⟩
    show impl_PutField.f (k + 1) L i s = _
    unfold impl_PutField.f
    rw [hb, Option.bind_some, if_neg (by simp)]
    exact bad k
theorem spec_put (i : Int) (hLl : L.length ≤ 1000000000) : Ev (fun k => spec_PutField.f k L i s) (putV L i s) := by
  have bad : ∀ k, spec_PutField.j0 (k + 1) L i s true = some ([], false) := fun k => by simp only [spec_PutField.j0]; rw [if_pos (by trivial)]
  unfold putV
  by_cases hi : 1 ≤ i ∧ i ≤ 50
  · by_cases hl : L.length ≤ 50
    · rw [if_pos ⟨hi, hl⟩]
      obtain ⟨n, rfl⟩ := Int.eq_ofNat_of_zero_le (show 0 ≤ i by omega)
      have hp := spec_pad hsum n (by omega) (by omega) (n - L.length) L rfl hl rfl
      refine Ev.congr (fun k => ?_) (Ev.step (g := fun k => spec_PutField.j0 k L (n : Int) s false) (fun k => ?_) hp)
      · unfold spec_PutField.f
        rw [if_neg (by omega), if_neg (by omega), decide_eq_false (by omega)]
      · simp only [spec_PutField.j0]
        rw [if_neg (by simp), Option.bind_some, if_pos (by simp; omega), List.nil_append]
    · rw [if_neg (fun z => hl z.2)]
      refine ⟨1, fun k hk => ?_⟩
      obtain ⟨k, rfl⟩ : ∃ m, k = m + 1 := ⟨k - 1, by omega⟩
      show spec_PutField.f (k + 1) L i s = _
      unfold spec_PutField.f
      rw [if_neg (by omega), if_neg (by omega), decide_eq_true (by omega)]
      exact bad k
  · rw [if_neg (fun z => hi z.1)]
    refine ⟨1, fun k hk => ?_⟩
    obtain ⟨k, rfl⟩ : ∃ m, k = m + 1 := ⟨k - 1, by omega⟩
    show spec_PutField.f (k + 1) L i s = _
    unfold spec_PutField.f
    by_cases g : i < 1
    · rw [if_pos g]; exact bad k
    · rw [if_neg g, if_pos (by omega)]; exact bad k
end
end Go.Proofs.Ytegllcjlngdijaa.PFnExactPutField
