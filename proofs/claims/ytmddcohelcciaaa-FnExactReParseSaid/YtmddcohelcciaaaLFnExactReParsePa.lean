/- What the law writes into a row of nodes, and finds there again; two rows of nodes. -/
import Derived.Test.YtmddcohelcciaaaLFnExactReParseM
import Derived.Test.YtmddcohelcciaaaXLem
namespace Go.Proofs.Ytmddcohelcciaaa.PFnExactReParse.H
set_option linter.unusedVariables false
set_option linter.unusedSimpArgs false
open Go.RowKit Go.Proofs.YtmddcohelcciaaaW.PrintWords Go.Proofs.YtmddcohelcciaaaW.PrintLast Go.Proofs.YtmddcohelcciaaaW.PrintMore Go.Proofs.Ytmddcohelcciaaa.XL
theorem str_one (c : Int) : (strOfNums [c]).size = 1 := by
  have h : (strOfNums [c]).data.toList.length = 1 := by rw [strOfNums_data, List.length_map]; rfl
  rw [Array.length_toList] at h
  exact h
theorem mark_ex : ∀ (u : Nat) (x : ByteArray), x.size + u ≤ 9000000000000 → ∃ t, Ev (fun k => laws_markText.l0 k (u : Int) x) t := by
  intro u
  induction u using Nat.strongRecOn with
  | _ u ih =>
    intro x hx
    by_cases h0 : u = 0
    · subst h0
      refine ⟨_, Ev.step (f := fun _ => some ((⟨#[109]⟩ : ByteArray) ++ x)) (fun k => ?_) (Ev.now _)⟩
      simp only [laws_markText.l0]
      rw [if_neg (by omega), if_pos (by omega)]
    · have hz : ((strOfNums [(wrap64 (48 + Int.tmod (u : Int) 10)) % 256]) ++ x).size = 1 + x.size := by
        rw [ByteArray.size_append, str_one]
      obtain ⟨t, e⟩ := ih (u / 10) (by omega) ((strOfNums [(wrap64 (48 + Int.tmod (u : Int) 10)) % 256]) ++ x) (by rw [hz]; omega)
      refine ⟨t, Ev.step (fun k => ?_) e⟩
      simp only [laws_markText.l0, Option.bind_some]
      rw [if_pos (by omega), str_one, if_pos (by omega), show wrap64 (Int.tdiv (u : Int) 10) = ((u / 10 : Nat) : Int) by rw [Int.tdiv_eq_ediv_of_nonneg (by omega), wrap_id (by omega) (by omega)]; omega]
theorem mark_ex' (m : Nat) (h : 1 ≤ m) (h2 : m ≤ 8000000000000) : ∃ t, Ev (fun k => laws_markText.f k (m : Int)) t := by
  obtain ⟨t, e⟩ := mark_ex m (⟨#[]⟩ : ByteArray) (by show 0 + m ≤ _; omega)
  refine ⟨t, Ev.congr (fun k => ?_) e⟩
  unfold laws_markText.f
  rw [if_neg (by omega)]
noncomputable def markT (m : Nat) : ByteArray := if h : 1 ≤ m ∧ m ≤ 8000000000000 then Classical.choose (mark_ex' m h.1 h.2) else ByteArray.empty
theorem mark_text (m : Nat) (h : 1 ≤ m) (h2 : m ≤ 8000000000000) : Ev (fun k => laws_markText.f k (m : Int)) (markT m) := by
  unfold markT
  rw [dif_pos ⟨h, h2⟩]
  exact Classical.choose_spec (mark_ex' m h h2)
theorem rd_get (L : List Int) (i : Nat) (h : i < L.length) : rd L (i : Int) = L[i] := by
  unfold rd
  rw [Int.toNat_natCast, List.getD_eq_getElem?_getD, List.getElem?_eq_getElem h]
  rfl
theorem rd_I (L : List S39) (i : Nat) (h : i < L.length) : rd_T39 L (i : Int) = L[i] := by
  unfold rd_T39
  rw [Int.toNat_natCast, List.getD_eq_getElem?_getD, List.getElem?_eq_getElem h]
  rfl
def ints : Nat → Nat → List Int
  | _, 0 => []
  | m, d + 1 => (m : Int) :: ints (m + 1) d
theorem ints_length : ∀ d m, (ints m d).length = d := by
  intro d
  induction d with
  | zero => intro m; rfl
  | succ d ih => intro m; simp [ints, ih]
theorem mark_ints : ∀ (d i m : Nat) (L : List Int), i + d = L.length → m + d ≤ 1000000000 → L.length ≤ 1000000000 →
    Ev (fun k => laws_markIntS.l0 k L (m : Int) (i : Int)) (((m + d : Nat) : Int), L.take i ++ ints m d) := by
  intro d
  induction d with
  | zero =>
    intro i m L h h2 hL
    refine Ev.step (f := fun _ => some _) (fun k => ?_) (Ev.now _)
    simp only [laws_markIntS.l0]
    rw [if_neg (by omega), List.take_of_length_le (by omega)]
    simp [ints]
  | succ d ih =>
    intro i m L h h2 hL
    have hi : i < L.length := by omega
    have hih := ih (i + 1) (m + 1) (L.set i (m : Int)) (by rw [List.length_set]; omega) (by omega) (by rw [List.length_set]; omega)
    rw [List.take_succ_eq_append_getElem (by rw [List.length_set]; omega), List.take_set_of_le (Nat.le_refl _), List.getElem_set_self, List.append_assoc, show m + 1 + d = m + (d + 1) by omega] at hih
    refine Ev.step (fun k => ?_) hih
    simp only [laws_markIntS.l0]
    rw [if_pos (by omega), if_pos (by omega), wrap_nat1 m (by omega), wrap_nat1 i (by omega), Int.toNat_natCast]
theorem held_ints (L : List Int) (hL : L.length ≤ 1000000000) : ∀ (d i m : Nat), L.drop i = ints m d → i + d = L.length → m + d ≤ 1000000000 →
    Ev (fun k => laws_heldIntS.l0 k L (m : Int) (i : Int)) ((m + d : Nat) : Int) := by
  intro d
  induction d with
  | zero =>
    intro i m hd h h2
    refine Ev.step (f := fun _ => some _) (fun k => ?_) (Ev.now _)
    simp only [laws_heldIntS.l0]
    rw [if_neg (by omega)]
    rfl
  | succ d ih =>
    intro i m hd h h2
    have hi : i < L.length := by omega
    rw [List.drop_eq_getElem_cons hi] at hd
    simp only [ints, List.cons.injEq] at hd
    have hih := ih (i + 1) (m + 1) hd.2 (by omega) (by omega)
    rw [show m + 1 + d = m + (d + 1) by omega] at hih
    refine Ev.step (fun k => ?_) hih
    simp only [laws_heldIntS.l0]
    rw [rd_get L i hi, hd.1, if_pos (by omega), if_pos (by omega), if_pos rfl, wrap_nat1 m (by omega), wrap_nat1 i (by omega)]
/-- A marked node whose kids are n. -/
noncomputable def markN (m n : Nat) : S39 := ⟨(m : Int), (Int.tmod ((m + 1 : Nat) : Int) 3 == 0), markT (m + 1 + 1), ints (m + 1 + 1 + 1) n⟩
noncomputable def marksN : Nat → List S39 → List S39
  | _, [] => []
  | m, x :: l => markN m x.f3.length :: marksN (m + 3 + x.f3.length) l
def sumK (L : List S39) : Nat := (L.map (fun x => 3 + x.f3.length)).sum
theorem sumK_cons (x : S39) (l : List S39) : sumK (x :: l) = 3 + x.f3.length + sumK l := by simp [sumK]
theorem marksN_length : ∀ (l : List S39) m, (marksN m l).length = l.length := by
  intro l
  induction l with
  | nil => intro m; rfl
  | cons x l ih => intro m; simp [marksN, ih]
theorem mark_row : ∀ (d i m : Nat) (L : List S39), i + d = L.length → 1 ≤ m → m + sumK (L.drop i) ≤ 100000000 → L.length ≤ 100000 → (∀ x ∈ L, x.f3.length ≤ 100000) →
    Ev (fun k => mkL k L (m : Int) (i : Int)) (((m + sumK (L.drop i) : Nat) : Int), L.take i ++ marksN m (L.drop i)) := by
  intro d
  induction d with
  | zero =>
    intro i m L h h1 h2 hL hx
    refine Ev.step (f := fun _ => some _) (fun k => ?_) (Ev.now _)
    simp only [mkL]
    rw [if_neg (by omega), List.take_of_length_le (by omega), List.drop_of_length_le (by omega)]
    simp [marksN, sumK]
  | succ d ih =>
    intro i m L h h1 h2 hL hx
    have hi : i < L.length := by omega
    have hk := hx L[i] (List.getElem_mem hi)
    rw [List.drop_eq_getElem_cons hi, sumK_cons] at h2
    have hdr : (L.set i (markN m L[i].f3.length)).drop (i + 1) = L.drop (i + 1) := List.drop_set_of_lt (by omega)
    have hih := ih (i + 1) (m + 3 + L[i].f3.length) (L.set i (markN m L[i].f3.length)) (by rw [List.length_set]; omega) (by omega) (by rw [hdr]; omega) (by rw [List.length_set]; omega) (by
      intro x hxm
      rcases List.mem_or_eq_of_mem_set hxm with hxm | rfl
      · exact hx x hxm
      · show (ints _ _).length ≤ _
        rw [ints_length]; exact hk)
    rw [hdr, List.take_succ_eq_append_getElem (by rw [List.length_set]; omega), List.take_set_of_le (Nat.le_refl _), List.getElem_set_self, List.append_assoc] at hih
    have hmi := mark_ints L[i].f3.length 0 (m + 1 + 1 + 1) L[i].f3 (by omega) (by omega) (by omega)
    rw [List.take_zero, List.nil_append] at hmi
    obtain ⟨K1, e1⟩ := mark_text (m + 1 + 1) (by omega) (by omega)
    obtain ⟨K2, e2⟩ := hmi
    obtain ⟨K3, e3⟩ := hih
    rw [List.drop_eq_getElem_cons hi, sumK_cons]
    refine ⟨K1 + K2 + K3 + 1, fun k hk => ?_⟩
    obtain ⟨k, rfl⟩ : ∃ q, k = q + 1 := ⟨k - 1, by omega⟩
    have g1 := e1 k (by omega)
    have g2 : laws_markIntS.f k L[i].f3 ((m + 1 + 1 + 1 : Nat) : Int) = _ := e2 k (by omega)
    have g3 := e3 k (by omega)
    dsimp only at g1 g3
    simp only [mkL]
    rw [if_pos (by omega), if_pos (by omega), wrap_nat1 m (by omega), wrap_nat1 (m + 1) (by omega), wrap_nat1 (m + 1 + 1) (by omega), wrap_nat1 i (by omega), g1, Option.bind_some, rd_I L i hi, g2, Option.bind_some, Int.toNat_natCast]
    unfold markN at g3
    rw [show m + 1 + 1 + 1 + L[i].f3.length = m + 3 + L[i].f3.length by omega]
    rw [g3]
    simp only [marksN, markN, List.singleton_append, Option.some.injEq, Prod.mk.injEq]
    exact ⟨by omega, trivial⟩
theorem held_row (L : List S39) (hL : L.length ≤ 100000) (hx : ∀ x ∈ L, x.f3.length ≤ 100000) : ∀ (R : List S39) (i m : Nat), L.drop i = marksN m R → i + R.length = L.length → 1 ≤ m → m + sumK R ≤ 100000000 →
    Ev (fun k => laws_heldReNodeS.l0 k L (m : Int) (i : Int)) ((m + sumK R : Nat) : Int) := by
  intro R
  induction R with
  | nil =>
    intro i m hd h h1 h2
    refine Ev.step (f := fun _ => some _) (fun k => ?_) (Ev.now _)
    simp only [laws_heldReNodeS.l0]
    rw [if_neg (by simp at h; omega)]
    rfl
  | cons x l ih =>
    intro i m hd h h1 h2
    rw [List.length_cons] at h
    have hi : i < L.length := by omega
    rw [List.drop_eq_getElem_cons hi] at hd
    simp only [marksN, List.cons.injEq] at hd
    rw [sumK_cons] at h2
    have hlen : L[i].f3.length ≤ 100000 := hx _ (List.getElem_mem hi)
    rw [hd.1] at hlen
    have hlen2 : (ints (m + 1 + 1 + 1) x.f3.length).length ≤ 100000 := hlen
    rw [ints_length] at hlen2
    have hih := ih (i + 1) (m + 3 + x.f3.length) hd.2 (by omega) (by omega) (by omega)
    have hhi := held_ints (ints (m + 1 + 1 + 1) x.f3.length) (by rw [ints_length]; omega) x.f3.length 0 (m + 1 + 1 + 1) (by rw [List.drop_zero]) (by rw [ints_length]; omega) (by omega)
    obtain ⟨K1, e1⟩ := mark_text (m + 1 + 1) (by omega) (by omega)
    obtain ⟨K2, e2⟩ := hhi
    obtain ⟨K3, e3⟩ := hih
    refine ⟨K1 + K2 + K3 + 1, fun k hk => ?_⟩
    obtain ⟨k, rfl⟩ : ∃ q, k = q + 1 := ⟨k - 1, by omega⟩
    have g1 := e1 k (by omega)
    have g2 : laws_heldIntS.f k (ints (m + 1 + 1 + 1) x.f3.length) ((m + 1 + 1 + 1 : Nat) : Int) = _ := e2 k (by omega)
    have g3 := e3 k (by omega)
    dsimp only at g1 g3
    simp only [laws_heldReNodeS.l0]
    rw [rd_I L i hi, hd.1]
    unfold markN
    rw [if_pos (by omega), if_pos (by omega), if_pos rfl, wrap_nat1 m (by omega), if_neg (by simp), wrap_nat1 (m + 1) (by omega), g1, Option.bind_some, if_pos rfl, wrap_nat1 (m + 1 + 1) (by omega), g2, Option.bind_some, if_neg (by omega), wrap_nat1 i (by omega),
      show m + 1 + 1 + 1 + x.f3.length = m + 3 + x.f3.length by omega, g3, sumK_cons]
    exact congrArg some (by omega)
theorem marks_ok (L : List S39) (hL : L.length ≤ 300) (hx : ∀ x ∈ L, x.f3.length ≤ 300) : ∃ (L' : List S39) (m : Int), 0 ≤ m ∧ Ev (fun k => mkL k L 1 0) (m, L') ∧ Ev (fun k => laws_heldReNodeS.f k L' 1) m := by
  have hs : ∀ l : List S39, (∀ x ∈ l, x.f3.length ≤ 300) → sumK l ≤ 303 * l.length := by
    intro l
    induction l with
    | nil => intro _; simp [sumK]
    | cons x l ih =>
      intro h
      rw [sumK_cons, List.length_cons]
      have := h x (List.mem_cons_self ..)
      have := ih (fun y hy => h y (List.mem_cons_of_mem _ hy))
      omega
  have hsL := hs L hx
  have hmx : ∀ (l : List S39) (m : Nat), (∀ x ∈ l, x.f3.length ≤ 300) → ∀ x ∈ marksN m l, x.f3.length ≤ 100000 := by
    intro l
    induction l with
    | nil => intro m _ x hx; cases hx
    | cons y l ih =>
      intro m h x hx
      rcases List.mem_cons.1 hx with rfl | hx
      · show (ints _ _).length ≤ _
        rw [ints_length]
        have := h y (List.mem_cons_self ..)
        omega
      · exact ih _ (fun z hz => h z (List.mem_cons_of_mem _ hz)) x hx
  refine ⟨marksN 1 L, ((1 + sumK L : Nat) : Int), by omega, ?_, ?_⟩
  · have := mark_row L.length 0 1 L (by omega) (by omega) (by rw [List.drop_zero]; omega) (by omega) (fun x h => by have := hx x h; omega)
    rw [List.take_zero, List.nil_append, List.drop_zero] at this
    exact this
  · exact held_row (marksN 1 L) (by rw [marksN_length]; omega) (hmx L 1 hx) L 0 1 (by rw [List.drop_zero]) (by rw [marksN_length]; omega) (by omega) (by omega)
theorem eq_ints (L : List Int) (hL : L.length ≤ 1048576) : Ev (fun k => laws_eqIntS.f k L L) true := by
  have loop : ∀ (d i : Nat), i + d = L.length → Ev (fun k => laws_eqIntS.l0 k L L (i : Int)) true := by
    intro d
    induction d with
    | zero =>
      intro i h
      refine Ev.step (f := fun _ => some _) (fun k => ?_) (Ev.now _)
      simp only [laws_eqIntS.l0]
      rw [if_neg (by omega)]
    | succ d ih =>
      intro i h
      refine Ev.step (fun k => ?_) (ih (i + 1) (by omega))
      simp only [laws_eqIntS.l0]
      rw [if_pos (by omega), if_pos (by omega), if_pos (by omega), if_pos trivial, wrap_nat1 i (by omega)]
  refine Ev.congr (fun k => ?_) (loop L.length 0 (by omega))
  unfold laws_eqIntS.f
  rw [if_pos rfl]
  rfl
theorem eq_row (L : List S39) (hL : L.length ≤ 1048576) (hx : ∀ x ∈ L, x.f3.length ≤ 1048576) : Ev (fun k => laws_eqReNodeS.f k L L) true := by
  have loop : ∀ (d i : Nat), i + d = L.length → Ev (fun k => laws_eqReNodeS.l0 k L L (i : Int)) true := by
    intro d
    induction d with
    | zero =>
      intro i h
      refine Ev.step (f := fun _ => some _) (fun k => ?_) (Ev.now _)
      simp only [laws_eqReNodeS.l0]
      rw [if_neg (by omega)]
    | succ d ih =>
      intro i h
      have hi : i < L.length := by omega
      refine ev_use (eq_ints L[i].f3 (hx _ (List.getElem_mem hi))) (ih (i + 1) (by omega)) (fun k e1 e2 => ?_)
      simp only [laws_eqReNodeS.l0]
      rw [if_pos (by omega), if_pos (by omega), if_pos (by omega), rd_I L i hi]
      unfold laws_eqReNode.f
      rw [if_pos rfl, if_neg (by simp), if_pos rfl, e1, Option.bind_some, if_pos (rfl : true = true), Option.bind_some, if_pos (rfl : true = true), wrap_nat1 i (by omega)]
      exact e2
  refine Ev.congr (fun k => ?_) (loop L.length 0 (by omega))
  unfold laws_eqReNodeS.f
  rw [if_pos rfl]
  rfl
end Go.Proofs.Ytmddcohelcciaaa.PFnExactReParse.H
