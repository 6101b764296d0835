/- What the law writes into a row of tokens, and finds there again; two rows of tokens. -/
import Derived.Test.YtmddcohelcciaacDoorPFnExactLexx
import Derived.Test.YtmddcohelcciaacDoorXLem
namespace Go.Proofs.YtmddcohelcciaacDoor.PFnExactLex
set_option linter.unusedVariables false
set_option linter.unusedSimpArgs false
open Go.RowKit Go.Proofs.YtmddcohelcciaacDoorW.PrintWords Go.Proofs.YtmddcohelcciaacDoorW.PrintLast Go.Proofs.YtmddcohelcciaacDoorW.PrintMore Go.Proofs.YtmddcohelcciaacDoor.XL
theorem str_one (c : Int) : (strOfNums [c]).size = 1 := by
  have h : (strOfNums [c]).data.toList.length = 1 := by rw [strOfNums_data, List.length_map]; rfl
  rw [Array.length_toList] at h
  exact h
theorem mark_ex : ∀ (u : Nat) (x : ByteArray), x.size + u ≤ 9000000000000 → ∃ t, Ev (fun k => laws_markText.l0 k (u : Int) x) t := by
  intro u
  induction u using Nat.strongRecOn with
  | _ u ih =>
    intro x hx
    by_cases h0 : u = 0
    · subst h0
      refine ⟨_, Ev.step (f := fun _ => some ((⟨#[109]⟩ : ByteArray) ++ x)) (fun k => ?_) (Ev.now _)⟩
      simp only [laws_markText.l0]
      rw [if_neg (by omega), if_pos (by omega)]
    · have hz : ((strOfNums [(wrap64 (48 + Int.tmod (u : Int) 10)) % 256]) ++ x).size = 1 + x.size := by
        rw [ByteArray.size_append, str_one]
      obtain ⟨t, e⟩ := ih (u / 10) (by omega) ((strOfNums [(wrap64 (48 + Int.tmod (u : Int) 10)) % 256]) ++ x) (by rw [hz]; omega)
      refine ⟨t, Ev.step (fun k => ?_) e⟩
      simp only [laws_markText.l0, Option.bind_some]
      rw [if_pos (by omega), str_one, if_pos (by omega), show wrap64 (Int.tdiv (u : Int) 10) = ((u / 10 : Nat) : Int) by rw [Int.tdiv_eq_ediv_of_nonneg (by omega), wrap_id (by omega) (by omega)]; omega]
theorem mark_ex' (m : Nat) (h : 1 ≤ m) (h2 : m ≤ 8000000000000) : ∃ t, Ev (fun k => laws_markText.f k (m : Int)) t := by
  obtain ⟨t, e⟩ := mark_ex m (⟨#[]⟩ : ByteArray) (by show 0 + m ≤ _; omega)
  refine ⟨t, Ev.congr (fun k => ?_) e⟩
  unfold laws_markText.f
  rw [if_neg (by omega)]
noncomputable def markT (m : Nat) : ByteArray := if h : 1 ≤ m ∧ m ≤ 8000000000000 then Classical.choose (mark_ex' m h.1 h.2) else ByteArray.empty
theorem mark_text (m : Nat) (h : 1 ≤ m) (h2 : m ≤ 8000000000000) : Ev (fun k => laws_markText.f k (m : Int)) (markT m) := by
  unfold markT
  rw [dif_pos ⟨h, h2⟩]
  exact Classical.choose_spec (mark_ex' m h h2)
theorem rd_tok (L : List S30) (i : Nat) (h : i < L.length) : rd_T30 L (i : Int) = L[i] := by
  unfold rd_T30
  rw [Int.toNat_natCast, List.getD_eq_getElem?_getD, List.getElem?_eq_getElem h]
  rfl
theorem rd_set (L : List S30) (i : Nat) (v : S30) (h : i < L.length) : rd_T30 (L.set i v) (i : Int) = v := by
  rw [rd_tok _ i (by rw [List.length_set]; exact h), List.getElem_set_self]
noncomputable def markV (m : Nat) : S30 := ⟨(m : Int), markT (m + 1), ((m + 1 + 1 : Nat) : Int), ((m + 1 + 1 + 1 : Nat) : Int)⟩
noncomputable def marksFrom : Nat → Nat → List S30
  | _, 0 => []
  | m, d + 1 => markV m :: marksFrom (m + 1 + 1 + 1 + 1) d
theorem marks_length : ∀ d m, (marksFrom m d).length = d := by
  intro d
  induction d with
  | zero => intro m; rfl
  | succ d ih => intro m; simp [marksFrom, ih]
theorem mark_row : ∀ (d i m : Nat) (L : List S30), i + d = L.length → 1 ≤ m → m + 4 * d ≤ 1000000 → L.length ≤ 100000 →
    Ev (fun k => laws_markTokS.l0 k L (m : Int) (i : Int)) (((m + 4 * d : Nat) : Int), L.take i ++ marksFrom m d) := by
  intro d
  induction d with
  | zero =>
    intro i m L h h1 h2 hL
    refine Ev.step (f := fun _ => some _) (fun k => ?_) (Ev.now _)
    simp only [laws_markTokS.l0]
    rw [if_neg (by omega), List.take_of_length_le (by omega)]
    simp [marksFrom]
  | succ d ih =>
    intro i m L h h1 h2 hL
    have hi : i < L.length := by omega
    have hih := ih (i + 1) (m + 1 + 1 + 1 + 1) (L.set i (markV m)) (by rw [List.length_set]; omega) (by omega) (by omega) (by rw [List.length_set]; omega)
    rw [List.take_succ_eq_append_getElem (by rw [List.length_set]; omega), List.take_set_of_le (Nat.le_refl _), List.getElem_set_self, List.append_assoc, show m + 1 + 1 + 1 + 1 + 4 * d = m + 4 * (d + 1) by omega] at hih
    refine ev_use (mark_text (m + 1) (by omega) (by omega)) hih (fun k g1 g2 => ?_)
    have rs := fun v => rd_set L i v hi
    simp only [laws_markTokS.l0]
    rw [if_pos (by omega), if_pos (by omega), wrap_nat1 m (by omega), wrap_nat1 (m + 1) (by omega), wrap_nat1 (m + 1 + 1) (by omega), wrap_nat1 (m + 1 + 1 + 1) (by omega), wrap_nat1 i (by omega), Int.toNat_natCast, g1, Option.bind_some, Option.bind_some]
    simp only [rs, List.set_set]
    rw [Option.bind_some]
    simp only [rs, List.set_set]
    rw [Option.bind_some]
    simp only [rs, List.set_set]
    unfold markV at g2
    exact g2
theorem held_row (L : List S30) (hL : L.length ≤ 100000) : ∀ (d i m : Nat), L.drop i = marksFrom m d → i + d = L.length → 1 ≤ m → m + 4 * d ≤ 1000000 →
    Ev (fun k => laws_heldTokS.l0 k L (m : Int) (i : Int)) ((m + 4 * d : Nat) : Int) := by
  intro d
  induction d with
  | zero =>
    intro i m hd h h1 h2
    refine Ev.step (f := fun _ => some _) (fun k => ?_) (Ev.now _)
    simp only [laws_heldTokS.l0]
    rw [if_neg (by omega)]
    rfl
  | succ d ih =>
    intro i m hd h h1 h2
    have hi : i < L.length := by omega
    rw [List.drop_eq_getElem_cons hi] at hd
    simp only [marksFrom, List.cons.injEq] at hd
    have hih := ih (i + 1) (m + 1 + 1 + 1 + 1) hd.2 (by omega) (by omega) (by omega)
    rw [show m + 1 + 1 + 1 + 1 + 4 * d = m + 4 * (d + 1) by omega] at hih
    refine ev_use (mark_text (m + 1) (by omega) (by omega)) hih (fun k g1 g2 => ?_)
    simp only [laws_heldTokS.l0]
    rw [rd_tok L i hi, hd.1]
    unfold markV
    rw [if_pos (by omega), if_pos (by omega), if_pos rfl, wrap_nat1 m (by omega), g1, Option.bind_some, if_pos rfl, wrap_nat1 (m + 1) (by omega), if_pos rfl, wrap_nat1 (m + 1 + 1) (by omega), if_pos rfl, wrap_nat1 (m + 1 + 1 + 1) (by omega), wrap_nat1 i (by omega)]
    exact g2
theorem marks_ok (L : List S30) (hL : L.length ≤ 4001) : ∃ (L' : List S30) (m : Int), 0 ≤ m ∧ Ev (fun k => laws_markTokS.f k L 1) (m, L') ∧ Ev (fun k => laws_heldTokS.f k L' 1) m := by
  refine ⟨marksFrom 1 L.length, ((1 + 4 * L.length : Nat) : Int), by omega, ?_, ?_⟩
  · have := mark_row L.length 0 1 L (by omega) (by omega) (by omega) (by omega)
    rw [List.take_zero, List.nil_append] at this
    exact this
  · exact held_row (marksFrom 1 L.length) (by rw [marks_length]; omega) L.length 0 1 (by rw [List.drop_zero]) (by rw [marks_length]; omega) (by omega) (by omega)
theorem eq_toks (L : List S30) (hL : L.length ≤ 4001) : Ev (fun k => laws_eqTokS.f k L L) true := by
  have loop : ∀ (d i : Nat), i + d = L.length → Ev (fun k => laws_eqTokS.l0 k L L (i : Int)) true := by
    intro d
    induction d with
    | zero =>
      intro i h
      refine Ev.step (f := fun _ => some _) (fun k => ?_) (Ev.now _)
      simp only [laws_eqTokS.l0]
      rw [if_neg (by omega)]
    | succ d ih =>
      intro i h
      refine Ev.step (fun k => ?_) (ih (i + 1) (by omega))
      simp only [laws_eqTokS.l0]
      unfold laws_eqTok.f
      rw [if_pos (by omega), if_pos (by omega), if_pos (by omega), if_pos rfl, if_pos rfl, if_pos rfl, if_pos rfl, Option.bind_some, if_pos (rfl : true = true), wrap_nat1 i (by omega)]
  refine Ev.congr (fun k => ?_) (loop L.length 0 (by omega))
  unfold laws_eqTokS.f
  rw [if_pos rfl]
  rfl
end Go.Proofs.YtmddcohelcciaacDoor.PFnExactLex
