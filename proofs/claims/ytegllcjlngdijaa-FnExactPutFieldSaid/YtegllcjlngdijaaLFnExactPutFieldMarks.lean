/- What the laws write into a row of texts, and find there again. -/
import Derived.Test.YtegllcjlngdijaaXBa
import Derived.Test.YtegllcjlngdijaaPFnExactPutFieldx
namespace Go.Proofs.Ytegllcjlngdijaa.PFnExactPutField
set_option linter.unusedVariables false
set_option linter.unusedSimpArgs false
open Go.RowKit Go.Proofs.YtegllcjlngdijaaW.PrintWords Go.Proofs.YtegllcjlngdijaaW.PrintLast Go.Proofs.YtegllcjlngdijaaW.PrintMore Go.Proofs.Ytegllcjlngdijaa.XL
open Go.Lib (decDigits)

def markT (m : Nat) : ByteArray := ba (109 :: decDigits m)
theorem mark_zero (s : List UInt8) (h : s.length ≤ 9000000000000) : ∀ k, laws_markText.l0 (k + 1) 0 (ba s) = some (ba (109 :: s)) := fun k => by
  simp only [laws_markText.l0]
  rw [if_neg (by omega), ba_size, if_pos (by omega), show (⟨#[109]⟩ : ByteArray) = ba [109] from rfl, ba_append]
  rfl
theorem mark_loop : ∀ (u : Nat), 1 ≤ u → ∀ s : List UInt8, u + s.length ≤ 9000000000000 → Ev (fun k => laws_markText.l0 k (u : Int) (ba s)) (ba (109 :: (decDigits u ++ s))) := by
  intro u
  induction u using Nat.strongRecOn with
  | ind u ih =>
    intro h1 s hs
    have hb : ((wrap64 (48 + Int.tmod (u : Int) 10)) % 256).toNat = 48 + u % 10 := by
      rw [Int.tmod_eq_emod_of_nonneg (by omega), wrap_id (by omega) (by omega)]
      omega
    have e : wrap64 (Int.tdiv (u : Int) 10) = ((u / 10 : Nat) : Int) := by
      rw [Int.tdiv_eq_ediv_of_nonneg (by omega), wrap_id (by omega) (by omega)]
      omega
    have step : ∀ k, laws_markText.l0 (k + 1) (u : Int) (ba s) = laws_markText.l0 k ((u / 10 : Nat) : Int) (ba (UInt8.ofNat (48 + u % 10) :: s)) := fun k => by
      simp only [laws_markText.l0, Option.bind_some]
      rw [if_pos (by omega), strOf_one, hb, ba_append, ba_size, ba_size, if_pos (by simp; omega), e]
      rfl
    by_cases h : u < 10
    · rw [dec_small h]
      refine Ev.step step ?_
      rw [show u / 10 = 0 by omega, Nat.mod_eq_of_lt h]
      exact ⟨1, fun k hk => by
        obtain ⟨k, rfl⟩ : ∃ m, k = m + 1 := ⟨k - 1, by omega⟩
        exact mark_zero _ (by simp; omega) k⟩
    · rw [dec_big (by omega), List.append_assoc]
      exact Ev.step step (ih (u / 10) (by omega) (by omega) _ (by simp; omega))
theorem mark_text (m : Nat) (h1 : 1 ≤ m) (h2 : m ≤ 9000000000000) : Ev (fun k => laws_markText.f k (m : Int)) (markT m) := by
  have := mark_loop m h1 [] (by simp; omega)
  rw [List.append_nil] at this
  refine Ev.congr (fun k => ?_) this
  unfold laws_markText.f
  rw [if_neg (by omega)]
  rfl

def marksFrom : Nat → Nat → List ByteArray
  | _, 0 => []
  | m, d + 1 => markT m :: marksFrom (m + 1) d
theorem marks_length : ∀ d m, (marksFrom m d).length = d := by
  intro d
  induction d with
  | zero => intro m; rfl
  | succ d ih => intro m; simp [marksFrom, ih]
theorem set_take (L : List ByteArray) (i : Nat) (t : ByteArray) (h : i < L.length) : (L.set i t).take (i + 1) = L.take i ++ [t] := by
  rw [List.take_succ_eq_append_getElem (by simpa using h), List.take_set_of_le (Nat.le_refl _), List.getElem_set_self]
theorem mark_row : ∀ (d i m : Nat) (L : List ByteArray), i + d = L.length → 1 ≤ m → m + d ≤ 9000000000000 → L.length ≤ 9000000000000 →
    Ev (fun k => laws_markStringS.l0 k L (m : Int) (i : Int)) (((m + d : Nat) : Int), L.take i ++ marksFrom m d) := by
  intro d
  induction d with
  | zero =>
    intro i m L h h1 h2 hL
    refine Ev.step (f := fun _ => some _) (fun k => ?_) (Ev.now _)
    simp only [laws_markStringS.l0]
    rw [if_neg (by omega), List.take_of_length_le (by omega)]
    simp [marksFrom]
  | succ d ih =>
    intro i m L h h1 h2 hL
    have hih := ih (i + 1) (m + 1) (L.set i (markT m)) (by rw [List.length_set]; omega) (by omega) (by omega) (by rw [List.length_set]; omega)
    rw [set_take L i _ (by omega), List.append_assoc, show m + 1 + d = m + (d + 1) by omega] at hih
    refine ev_use (mark_text m h1 (by omega)) hih (fun k g1 g2 => ?_)
    simp only [laws_markStringS.l0]
    rw [if_pos (by omega), g1, Option.bind_some, if_pos (by omega), wrap_nat1 i (by omega), wrap_nat1 m (by omega)]
    exact g2
theorem held_row (L : List ByteArray) (hL : L.length ≤ 9000000000000) : ∀ (d i m : Nat), L.drop i = marksFrom m d → i + d = L.length → 1 ≤ m → m + d ≤ 9000000000000 →
    Ev (fun k => laws_heldStringS.l0 k L (m : Int) (i : Int)) ((m + d : Nat) : Int) := by
  intro d
  induction d with
  | zero =>
    intro i m hd h h1 h2
    refine Ev.step (f := fun _ => some _) (fun k => ?_) (Ev.now _)
    simp only [laws_heldStringS.l0]
    rw [if_neg (by omega)]
    rfl
  | succ d ih =>
    intro i m hd h h1 h2
    have hi : i < L.length := by omega
    rw [List.drop_eq_getElem_cons hi] at hd
    simp only [marksFrom, List.cons.injEq] at hd
    have hih := ih (i + 1) (m + 1) hd.2 (by omega) (by omega) (by omega)
    rw [show m + 1 + d = m + (d + 1) by omega] at hih
    refine ev_use (mark_text m h1 (by omega)) hih (fun k g1 g2 => ?_)
    simp only [laws_heldStringS.l0]
    have er : rdOf ByteArray.empty L (i : Int) = markT m := by
      unfold rdOf
      rw [Int.toNat_natCast, List.getD_eq_getElem?_getD, List.getElem?_eq_getElem hi, hd.1]
      rfl
    rw [if_pos (by omega), if_pos (by omega), g1, Option.bind_some, er, if_pos rfl, wrap_nat1 i (by omega), wrap_nat1 m (by omega)]
    exact g2
theorem marks_ok (L : List ByteArray) (hL : L.length ≤ 1000000000) : ∃ L', Ev (fun k => laws_markStringS.f k L 1) (((1 + L.length : Nat) : Int), L') ∧ Ev (fun k => laws_heldStringS.f k L' 1) ((1 + L.length : Nat) : Int) := by
  refine ⟨marksFrom 1 L.length, ?_, ?_⟩
  · have := mark_row L.length 0 1 L (by omega) (by omega) (by omega) (by omega)
    rw [List.take_zero, List.nil_append] at this
    exact this
  · exact held_row (marksFrom 1 L.length) (by rw [marks_length]; omega) L.length 0 1 (by rw [List.drop_zero]) (by rw [marks_length]; omega) (by omega) (by omega)
theorem eq_row (L : List ByteArray) (hL : L.length ≤ 1000000000) : Ev (fun k => laws_eqStringS.f k L L) true := by
  have loop : ∀ (d i : Nat), i + d = L.length → Ev (fun k => laws_eqStringS.l0 k L L (i : Int)) true := by
    intro d
    induction d with
    | zero =>
      intro i h
      refine Ev.step (f := fun _ => some _) (fun k => ?_) (Ev.now _)
      simp only [laws_eqStringS.l0]
      rw [if_neg (by omega)]
    | succ d ih =>
      intro i h
      refine Ev.step (fun k => ?_) (ih (i + 1) (by omega))
      simp only [laws_eqStringS.l0]
      rw [if_pos (by omega), if_pos (by omega), if_pos (by omega), if_pos trivial, wrap_nat1 i (by omega)]
  refine Ev.congr (fun k => ?_) (loop L.length 0 (by omega))
  unfold laws_eqStringS.f
  rw [if_pos rfl]
  rfl
end Go.Proofs.Ytegllcjlngdijaa.PFnExactPutField
