/- JoinFields: texts with blanks between them. -/
import Derived.Test.YtabbpbilkojkhaaXBa
import Derived.Test.YtabbpbilkojkhaaPFnExactJoinFieldsx
import Derived.Test.YtabbpbilkojkhaaLFnExactJoinFieldsStrs
namespace Go.Proofs.Ytabbpbilkojkhaa.PFnExactJoinFields
set_option linter.unusedVariables false
set_option linter.unusedSimpArgs false
open Go.RowKit Go.Proofs.YtabbpbilkojkhaaW.PrintWords Go.Proofs.YtabbpbilkojkhaaW.PrintLast Go.Proofs.YtabbpbilkojkhaaW.PrintMore Go.Proofs.Ytabbpbilkojkhaa.XL

def tailJ (L : List ByteArray) : List UInt8 := L.flatMap fun x => 32 :: x.data.toList
theorem tailJ_drop (L : List ByteArray) (i : Nat) (h : i < L.length) : tailJ (L.drop i) = 32 :: L[i].data.toList ++ tailJ (L.drop (i + 1)) := by
  unfold tailJ
  rw [List.drop_eq_getElem_cons h, List.flatMap_cons]
theorem data_size (x : ByteArray) : x.data.toList.length = x.size := by rw [Array.length_toList]; rfl
theorem tailJ_length (L : List ByteArray) : (tailJ L).length = L.length + sumS L := by
  induction L with
  | nil => rfl
  | cons x l ih =>
    have : tailJ (x :: l) = 32 :: x.data.toList ++ tailJ l := by unfold tailJ; rw [List.flatMap_cons]
    rw [this, List.length_append, ih, List.length_cons, data_size]
    simp [sumS]
    omega
def joinV (L : List ByteArray) : List UInt8 := Lib.join (L.map (·.data.toList)) [32]
theorem join_cons (x : ByteArray) (l : List ByteArray) : joinV (x :: l) = x.data.toList ++ tailJ l := by
  unfold joinV
  rw [List.map_cons, Lib.join_cons]
  congr 1
  unfold Lib.joinTail tailJ
  rw [List.map_map, List.flatMap_def]
  rfl
theorem join_length (L : List ByteArray) : (joinV L).length ≤ L.length + sumS L := by
  cases L with
  | nil => simp [joinV, Lib.join]
  | cons x l =>
    rw [join_cons, List.length_append, tailJ_length, data_size]
    simp [sumS]
    omega

theorem ba_append_of (a : List UInt8) (x : ByteArray) : ba a ++ x = ba (a ++ x.data.toList) := by
  conv => lhs; rw [← ba_of x]
  rw [ba_append]
section
variable {L : List ByteArray} (hL : L.length + sumS L ≤ 1048576)
include hL
theorem join_loop : ∀ (d i : Nat) (acc : List UInt8), i + d = L.length → 1 ≤ i → acc.length + (tailJ (L.drop i)).length ≤ 3000000 →
    Ev (fun k => spec_JoinFields.l0 k L (ba acc) (i : Int)) (ba (acc ++ tailJ (L.drop i))) := by
  intro d
  induction d with
  | zero =>
    intro i acc h h1 ha
    refine Ev.step (f := fun _ => some _) (fun k => ?_) (Ev.now _)
    simp only [spec_JoinFields.l0]
    rw [if_neg (by omega), List.drop_of_length_le (by omega)]
    simp [tailJ]
  | succ d ih =>
    intro i acc h h1 ha
    have hi : i < L.length := by omega
    rw [tailJ_drop L i hi] at ha ⊢
    rw [List.cons_append, List.length_cons, List.length_append, data_size] at ha
    have e : acc ++ (32 :: L[i].data.toList ++ tailJ (L.drop (i + 1))) = (acc ++ [32] ++ L[i].data.toList) ++ tailJ (L.drop (i + 1)) := by simp
    rw [e]
    refine Ev.step (fun k => ?_) (ih (i + 1) (acc ++ [32] ++ L[i].data.toList) (by omega) (by omega) (by rw [List.length_append, List.length_append, data_size]; simp; omega))
    simp only [spec_JoinFields.l0]
    rw [if_pos (by omega), if_pos (by omega), ba_size, if_pos (by omega), if_pos (by omega), rd_str L i hi, show (⟨#[32]⟩ : ByteArray) = ba [32] from rfl, ba_append, ba_size, if_pos (by rw [List.length_append]; simp; omega), ba_append_of, wrap_nat1 i (by omega)]
theorem size_loop : ∀ (d i n : Nat), i + d = L.length → 1 ≤ i → n + (tailJ (L.drop i)).length ≤ 3000000 →
    ∃ r, Ev (fun k => spec_l8size.l0 k L (n : Int) (i : Int)) r ∧ (r > 500 ↔ n + (tailJ (L.drop i)).length > 500) := by
  intro d
  induction d with
  | zero =>
    intro i n h h1 ha
    refine ⟨(n : Int), Ev.step (f := fun _ => some _) (fun k => ?_) (Ev.now _), ?_⟩
    · simp only [spec_l8size.l0]
      rw [if_neg (by omega)]
    · rw [List.drop_of_length_le (by omega)]
      simp [tailJ]
      omega
  | succ d ih =>
    intro i n h h1 ha
    have hi : i < L.length := by omega
    rw [tailJ_drop L i hi] at ha ⊢
    rw [List.cons_append, List.length_cons, List.length_append, data_size] at ha
    by_cases hbig : (L[i].size : Int) > 500
    · refine ⟨501, Ev.step (f := fun _ => some _) (fun k => ?_) (Ev.now _), ?_⟩
      · simp only [spec_l8size.l0]
        rw [if_pos (by omega), if_pos (by omega), if_pos (by omega), rd_str L i hi, if_pos hbig]
      · rw [List.cons_append, List.length_cons, List.length_append, data_size]
        constructor
        · intro _; omega
        · intro _; omega
    · obtain ⟨r, e, hr⟩ := ih (i + 1) (n + 1 + L[i].size) (by omega) (by omega) (by omega)
      refine ⟨r, Ev.step (fun k => ?_) e, ?_⟩
      · simp only [spec_l8size.l0]
        rw [if_pos (by omega), if_pos (by omega), if_pos (by omega), rd_str L i hi, if_neg hbig, wrap_nat1 n (by omega), wrap_nat (n + 1) L[i].size (by omega), wrap_nat1 i (by omega)]
      · rw [hr, List.cons_append, List.length_cons, List.length_append, data_size]
        constructor
        · intro _; omega
        · intro _; omega
theorem size_all : ∃ r, Ev (fun k => spec_l8size.f k L) r ∧ (r > 500 ↔ (joinV L).length > 500) := by
  cases L with
  | nil =>
    refine ⟨0, ⟨1, fun k hk => ?_⟩, by simp [joinV, Lib.join]⟩
    obtain ⟨k, rfl⟩ : ∃ m, k = m + 1 := ⟨k - 1, by omega⟩
    rfl
  | cons x l =>
    have ht := tailJ_length l
    have hsum : sumS (x :: l) = x.size + sumS l := by simp [sumS]
    rw [List.length_cons, hsum] at hL
    rw [join_cons, List.length_append, data_size]
    by_cases hbig : (x.size : Int) > 500
    · refine ⟨501, ⟨1, fun k hk => ?_⟩, by omega⟩
      obtain ⟨k, rfl⟩ : ∃ m, k = m + 1 := ⟨k - 1, by omega⟩
      show spec_l8size.f (k + 1) (x :: l) = _
      unfold spec_l8size.f
      simp only [spec_l8size.l0]
      rw [if_pos (by rw [List.length_cons]; omega), if_neg (by omega), if_pos (by omega), show rdOf ByteArray.empty (x :: l) 0 = x from rfl, if_pos hbig]
    · obtain ⟨r, e, hr⟩ := size_loop (L := x :: l) (by rw [List.length_cons, hsum]; omega) l.length 1 x.size (by simp; omega) (by omega) (by rw [List.drop_one, List.tail_cons]; omega)
      rw [List.drop_one, List.tail_cons] at hr
      refine ⟨r, Ev.congr (fun k => ?_) (Ev.step (g := fun k => spec_l8size.l0 k (x :: l) 0 0) (fun k => ?_) e), by rw [hr]⟩
      · rfl
      · simp only [spec_l8size.l0]
        rw [if_pos (by rw [List.length_cons]; omega), if_neg (by omega), if_pos (by omega), show rdOf ByteArray.empty (x :: l) 0 = x from rfl, if_neg hbig, wrap_id (n := 0 + (x.size : Int)) (by omega) (by omega), Int.zero_add, show wrap64 (0 + 1) = ((1 : Nat) : Int) from wrap_nat1 0 (by omega)]
theorem join_same : ∃ r, Ev (fun k => spec_JoinFields.f k L) r ∧ impl_JoinFields.f L = some r := by
  have hjl := join_length L
  have himp : L.length ≤ 50 → impl_joinFields.f L = some (ba (joinV L), decide ((joinV L).length ≤ 500)) := fun h => by
    unfold impl_joinFields.f strings_Join.f
    have hb : L.length ≤ 140737488355328 ∧ (Lib.join (L.map (·.data.toList)) (⟨#[32]⟩ : ByteArray).data.toList).length ≤ 140737488355328 := ⟨by omega, by
      have : (joinV L).length ≤ 140737488355328 := by omega
      exact this⟩
    rw [if_neg (by omega), if_pos hb, Option.bind_some]
    show some (ba (joinV L), decide (((ba (joinV L)).size : Int) ≤ 500)) = _
    rw [ba_size]
    congr 2
    apply decide_eq_decide.2
    omega
  by_cases h50 : (L.length : Int) > 50
  · refine ⟨ba [], ?_, ?_⟩
    · refine ⟨1, fun k hk => ?_⟩
      obtain ⟨k, rfl⟩ : ∃ m, k = m + 1 := ⟨k - 1, by omega⟩
      show spec_JoinFields.f (k + 1) L = _
      unfold spec_JoinFields.f
      rw [if_pos h50]
      simp only [spec_JoinFields.j0]
      rw [if_pos (by trivial)]
      rfl
    · unfold impl_JoinFields.f impl_joinFields.f
      rw [if_pos h50]
      rfl
  · obtain ⟨z, ez, hz⟩ := size_all hL
    by_cases hbig : (joinV L).length > 500
    · refine ⟨ba [], ?_, ?_⟩
      · obtain ⟨K, hK⟩ := ez
        refine ⟨K + 1, fun k hk => ?_⟩
        obtain ⟨k, rfl⟩ : ∃ m, k = m + 1 := ⟨k - 1, by omega⟩
        show spec_JoinFields.f (k + 1) L = _
        unfold spec_JoinFields.f
        rw [if_neg h50, (show spec_l8size.f (k + 1) L = _ from hK (k + 1) (by omega)), Option.bind_some, decide_eq_true (hz.2 hbig)]
        simp only [spec_JoinFields.j0]
        rw [if_pos (by trivial)]
        rfl
      · unfold impl_JoinFields.f
        rw [himp (by omega), decide_eq_false (by omega)]
        rfl
    · refine ⟨ba (joinV L), ?_, ?_⟩
      · have main : Ev (fun k => spec_JoinFields.l0 k L (⟨#[]⟩ : ByteArray) 0) (ba (joinV L)) := by
          cases L with
          | nil => exact ⟨1, fun k hk => by obtain ⟨k, rfl⟩ : ∃ m, k = m + 1 := ⟨k - 1, by omega⟩; rfl⟩
          | cons x l =>
            rw [join_cons]
            have ht := tailJ_length l
            have hsum : sumS (x :: l) = x.size + sumS l := by simp [sumS]
            have hL' := hL
            rw [List.length_cons, hsum] at hL'
            have hj := join_loop (L := x :: l) hL l.length 1 x.data.toList (by simp; omega) (by omega) (by rw [List.drop_one, List.tail_cons, data_size]; omega)
            rw [List.drop_one, List.tail_cons] at hj
            refine Ev.step (fun k => ?_) hj
            simp only [spec_JoinFields.l0]
            rw [if_pos (by rw [List.length_cons]; omega), if_neg (by omega), if_pos (by omega), show rdOf ByteArray.empty (x :: l) 0 = x from rfl, show (⟨#[]⟩ : ByteArray) = ba [] from rfl, ba_size, if_pos (by rw [List.length_nil]; omega), ba_append_of, List.nil_append, show wrap64 (0 + 1) = ((1 : Nat) : Int) from wrap_nat1 0 (by omega)]
        obtain ⟨K1, k1⟩ := ez
        obtain ⟨K2, k2⟩ := main
        refine ⟨K1 + K2 + 1, fun k hk => ?_⟩
        obtain ⟨k, rfl⟩ : ∃ m, k = m + 1 := ⟨k - 1, by omega⟩
        show spec_JoinFields.f (k + 1) L = _
        unfold spec_JoinFields.f
        rw [if_neg h50, (show spec_l8size.f (k + 1) L = _ from k1 (k + 1) (by omega)), Option.bind_some, decide_eq_false (fun z => hbig (hz.1 z))]
        simp only [spec_JoinFields.j0]
        rw [if_neg (by simp)]
        exact k2 k (by omega)
      · unfold impl_JoinFields.f
        rw [himp (by omega), decide_eq_true (by omega)]
        rfl
end
end Go.Proofs.Ytabbpbilkojkhaa.PFnExactJoinFields
