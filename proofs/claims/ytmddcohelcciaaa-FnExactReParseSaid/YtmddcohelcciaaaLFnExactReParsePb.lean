/- The two parsers go alike, from a byte to a repetition. -/
import Derived.Test.YtmddcohelcciaaaLFnExactReParseSt
import Derived.Test.YtmddcohelcciaaaXLem
namespace Go.Proofs.Ytmddcohelcciaaa.PFnExactReParse.H
open Go.RowKit Go.Proofs.YtmddcohelcciaaaW.PrintWords Go.Proofs.YtmddcohelcciaaaW.PrintLast Go.Proofs.YtmddcohelcciaaaW.PrintMore Go.Proofs.Ytmddcohelcciaaa.XL
attribute [local go_sem] max2_int min2_int max_two min_two max_three min_three max_four min_four   -- for this text's walks alone
set_option linter.unusedVariables false
set_option linter.unusedSimpArgs false
section
variable {s : ByteArray} {a : Int} {wr : Bool}
theorem next_in (hs : s.size ≤ 200) (h0 : 0 ≤ a) (h1 : a < s.size) : iNext s a wr = some (bt s a, a + 1, wr) := by
  unfold iNext
  rw [if_neg (by omega), wrap_id (n := a + 1) (by omega) (by omega), wrap_id (by omega) (by omega), show a + 1 - 1 = a by omega, if_pos h0, if_pos h1]
theorem next_out (h : (s.size : Int) ≤ a) : iNext s a wr = some (0, a, true) := by
  unfold iNext
  rw [if_pos h]
theorem sees_in (b : ByteArray) (h0 : 0 ≤ a) (h1 : a < s.size) : iSees s a b = some (decide (Lib.indexByte b.data.toList (bt s a).toNat.toUInt8 ≥ 0)) := by
  unfold iSees
  rw [if_pos h1, if_pos h0]
theorem sees_out (b : ByteArray) (h : (s.size : Int) ≤ a) : iSees s a b = some false := by
  unfold iSees
  rw [if_neg (by omega)]
theorem peek_in (h0 : 0 ≤ a) (h1 : a < s.size) : sPeek s a = some (bt s a) := by
  unfold sPeek
  rw [if_pos h1, if_pos h0]
theorem peek_out (h : (s.size : Int) ≤ a) : sPeek s a = some 0 := by
  unfold sPeek
  rw [if_neg (by omega)]
theorem more_in (h1 : a < s.size) : sMore s a = true := decide_eq_true h1
theorem more_out (h : (s.size : Int) ≤ a) : sMore s a = false := decide_eq_false (by omega)
theorem got_in (hs : s.size ≤ 200) (h0 : 0 ≤ a) (h1 : a < s.size) : sGot s a wr = some (bt s a, a + 1, wr) := by
  unfold sGot
  rw [wrap_id (n := a + 1) (by omega) (by omega), wrap_id (by omega) (by omega), show a + 1 - 1 = a by omega, if_pos h0, if_pos h1]
theorem byte_all {p : Int → Bool} (h : (List.range 256).all (fun n => p (n : Int)) = true) (c : Int) (h0 : 0 ≤ c) (h1 : c < 256) : p c = true := by
  obtain ⟨n, rfl⟩ := Int.eq_ofNat_of_zero_le h0
  exact List.all_eq_true.1 h n (List.mem_range.2 (by omega))
theorem ix124 (c : Int) (h0 : 0 ≤ c) (h1 : c < 256) : decide (Lib.indexByte [124] c.toNat.toUInt8 ≥ 0) = decide (c = 124) :=
  eq_of_beq (byte_all (p := fun c => decide (Lib.indexByte [124] c.toNat.toUInt8 ≥ 0) == decide (c = 124)) (by decide +kernel) c h0 h1)
theorem ix94 (c : Int) (h0 : 0 ≤ c) (h1 : c < 256) : decide (Lib.indexByte [94] c.toNat.toUInt8 ≥ 0) = decide (c = 94) :=
  eq_of_beq (byte_all (p := fun c => decide (Lib.indexByte [94] c.toNat.toUInt8 ≥ 0) == decide (c = 94)) (by decide +kernel) c h0 h1)
theorem ix93 (c : Int) (h0 : 0 ≤ c) (h1 : c < 256) : decide (Lib.indexByte [93] c.toNat.toUInt8 ≥ 0) = decide (c = 93) :=
  eq_of_beq (byte_all (p := fun c => decide (Lib.indexByte [93] c.toNat.toUInt8 ≥ 0) == decide (c = 93)) (by decide +kernel) c h0 h1)
theorem ix45 (c : Int) (h0 : 0 ≤ c) (h1 : c < 256) : decide (Lib.indexByte [45] c.toNat.toUInt8 ≥ 0) = decide (c = 45) :=
  eq_of_beq (byte_all (p := fun c => decide (Lib.indexByte [45] c.toNat.toUInt8 ≥ 0) == decide (c = 45)) (by decide +kernel) c h0 h1)
theorem ixP (c : Int) (h0 : 0 ≤ c) (h1 : c < 256) : decide (Lib.indexByte [124, 41] c.toNat.toUInt8 ≥ 0) = decide (c = 124 ∨ c = 41) :=
  eq_of_beq (byte_all (p := fun c => decide (Lib.indexByte [124, 41] c.toNat.toUInt8 ≥ 0) == decide (c = 124 ∨ c = 41)) (by decide +kernel) c h0 h1)
theorem ixO (c : Int) (h0 : 0 ≤ c) (h1 : c < 256) : decide (Lib.indexByte [42, 43, 63] c.toNat.toUInt8 ≥ 0) = decide (c = 42 ∨ c = 43 ∨ c = 63) :=
  eq_of_beq (byte_all (p := fun c => decide (Lib.indexByte [42, 43, 63] c.toNat.toUInt8 ≥ 0) == decide (c = 42 ∨ c = 43 ∨ c = 63)) (by decide +kernel) c h0 h1)
theorem ixK (c : Int) (h : c = 42 ∨ c = 43 ∨ c = 63) : wrap64 (5 + Lib.indexByte [42, 43, 63] c.toNat.toUInt8) = sKind c := by
  rcases h with rfl | rfl | rfl <;> decide +kernel
theorem sees124 (h0 : 0 ≤ a) (h1 : a < s.size) : iSees s a ⟨#[124]⟩ = some (decide (bt s a = 124)) := by rw [sees_in _ h0 h1]; exact congrArg some (ix124 _ (bt_ge s a) (bt_lt s a))
theorem sees94 (h0 : 0 ≤ a) (h1 : a < s.size) : iSees s a ⟨#[94]⟩ = some (decide (bt s a = 94)) := by rw [sees_in _ h0 h1]; exact congrArg some (ix94 _ (bt_ge s a) (bt_lt s a))
theorem sees93 (h0 : 0 ≤ a) (h1 : a < s.size) : iSees s a ⟨#[93]⟩ = some (decide (bt s a = 93)) := by rw [sees_in _ h0 h1]; exact congrArg some (ix93 _ (bt_ge s a) (bt_lt s a))
theorem sees45 (h0 : 0 ≤ a) (h1 : a < s.size) : iSees s a ⟨#[45]⟩ = some (decide (bt s a = 45)) := by rw [sees_in _ h0 h1]; exact congrArg some (ix45 _ (bt_ge s a) (bt_lt s a))
theorem seesP (h0 : 0 ≤ a) (h1 : a < s.size) : iSees s a ⟨#[124, 41]⟩ = some (decide (bt s a = 124 ∨ bt s a = 41)) := by rw [sees_in _ h0 h1]; exact congrArg some (ixP _ (bt_ge s a) (bt_lt s a))
theorem seesO (h0 : 0 ≤ a) (h1 : a < s.size) : iSees s a ⟨#[42, 43, 63]⟩ = some (decide (bt s a = 42 ∨ bt s a = 43 ∨ bt s a = 63)) := by rw [sees_in _ h0 h1]; exact congrArg some (ixO _ (bt_ge s a) (bt_lt s a))
theorem hasO (c : Int) (h0 : 0 ≤ c) (h1 : c < 256) : sHas ⟨#[42, 43, 63]⟩ c = some (decide (c = 42 ∨ c = 43 ∨ c = 63)) :=
  eq_of_beq (byte_all (p := fun c => sHas ⟨#[42, 43, 63]⟩ c == some (decide (c = 42 ∨ c = 43 ∨ c = 63))) (by decide +kernel) c h0 h1)
theorem hasB (c : Int) (h0 : 0 ≤ c) (h1 : c < 256) : sHas ⟨#[41, 124, 42, 43, 63, 93]⟩ c = some (decide (c = 41 ∨ c = 124 ∨ c = 42 ∨ c = 43 ∨ c = 63 ∨ c = 93)) :=
  eq_of_beq (byte_all (p := fun c => sHas ⟨#[41, 124, 42, 43, 63, 93]⟩ c == some (decide (c = 41 ∨ c = 124 ∨ c = 42 ∨ c = 43 ∨ c = 63 ∨ c = 93))) (by decide +kernel) c h0 h1)
end
def Good (L : List S39) : Prop := ∀ x ∈ L, x.f3.length ≤ 300
theorem Good.snoc {L : List S39} {x : S39} (h : Good L) (hx : x.f3.length ≤ 300) : Good (L ++ [x]) := by
  intro y hy
  rcases List.mem_append.1 hy with hy | hy
  · exact h y hy
  · rw [List.mem_singleton] at hy
    subst hy
    exact hx
/-- What both have reached, from place a and row L on. -/
structure Out (n d e1 e2 bi strict : Int) (a : Int) (L : List S39) (r : Int) (σ' : IS) (r' : Int) (τ' : SS) : Prop where
  len : L.length ≤ τ'.L.length
  good : Good L → Good τ'.L
  ge : a ≤ τ'.at_
  ok : τ'.wr = false → τ'.at_ ≤ n ∧ a + strict ≤ τ'.at_ ∧ (τ'.L.length : Int) ≤ L.length + 3 * (τ'.at_ - a) + e1
  bad : τ'.wr = true → τ'.at_ ≤ n + 21 - d ∧ (τ'.L.length : Int) ≤ L.length + 3 * (τ'.at_ - a) + e2
  rel : (σ'.wr = false ∧ τ'.wr = false ∧ r = r' ∧ σ'.at_ = τ'.at_ ∧ σ'.L = τ'.L ∧ σ'.deep = d) ∨ (σ'.wr = true ∧ (τ'.wr = true ∨ 200 < τ'.L.length) ∧ (σ'.L.length : Int) ≤ bi)
  lim : σ'.wr = false → L.length ≤ 200 → τ'.L.length ≤ 200
theorem iAdd_lt {σ : IS} {x : S39} (h : σ.L.length < 100000) : iAdd σ x = some ((σ.L.length : Int), ⟨σ.at_, σ.deep, σ.L ++ [x], σ.wr || decide ((200 : Int) < (σ.L.length : Int) + 1)⟩) := by
  unfold iAdd
  rw [if_pos h]
theorem sNode_lt {σ : SS} {x : S39} (h : σ.L.length < 100000) : sNode σ x = some ((σ.L.length : Int), ⟨σ.at_, σ.L ++ [x], σ.wr⟩) := by
  unfold sNode
  rw [if_pos h]
/-- A node joins on both sides. -/
theorem out_add {n d a a1 : Int} {L : List S39} {x : S39} (hx : x.f3.length ≤ 300) (h1 : a + 1 ≤ a1) (h2 : a1 ≤ n) (hd : d ≤ 20) (hL : (L.length : Int) ≤ 600) :
    Out n d (-1) 0 (641 - 2 * d) 1 a L (L.length : Int) ⟨a1, d, L ++ [x], false || decide ((200 : Int) < (L.length : Int) + 1)⟩ (L.length : Int) ⟨a1, L ++ [x], false⟩ := by
  have hl : (L ++ [x]).length = L.length + 1 := by simp
  refine ⟨by show L.length ≤ (L ++ [x]).length; omega, fun h => h.snoc hx, by show a ≤ a1; omega, fun _ => ⟨h2, h1, ?_⟩, (fun h => by cases h), ?_, fun h _ => ?_⟩
  · show ((L ++ [x]).length : Int) ≤ _ + 3 * (a1 - a) + -1
    omega
  · by_cases c : (200 : Int) < (L.length : Int) + 1
    · refine .inr ⟨by simp [c], .inr ?_, ?_⟩
      · show 200 < (L ++ [x]).length; omega
      · show ((L ++ [x]).length : Int) ≤ _; omega
    · exact .inl ⟨by simp [c], rfl, rfl, rfl, rfl, rfl⟩
  · show (L ++ [x]).length ≤ 200
    simp at h
    omega
/-- Both have gone wrong; the reference's row is as it was. -/
theorem out_bad {n d a a1 : Int} {L : List S39} {σ' : IS} {r r' : Int} (h1 : a ≤ a1) (h2 : a1 ≤ n) (hd : d ≤ 20) (hw : σ'.wr = true) (hL : (σ'.L.length : Int) ≤ 641 - 2 * d) :
    Out n d (-1) 0 (641 - 2 * d) 1 a L r σ' r' ⟨a1, L, true⟩ :=
  ⟨Nat.le_refl _, fun h => h, h1, (fun h => by cases h), fun _ => ⟨by show a1 ≤ _; omega, by show (L.length : Int) ≤ _ + 3 * (a1 - a) + 0; omega⟩, .inr ⟨hw, .inl rfl, hL⟩, fun h _ => by rw [hw] at h; cases h⟩

section
variable {s : ByteArray}
/-- An item. -/
theorem item_same (hs : s.size ≤ 200) {a : Int} (h0 : 0 ≤ a) (h1 : a ≤ s.size) : ∃ c a' c' a'' w w', iItem s a false = some (c, a', w) ∧ sItem s a false = some (c', a'', w') ∧ a ≤ a'' ∧ a'' ≤ s.size ∧ a ≤ a' ∧ a' ≤ s.size ∧ ((w = false ∧ w' = false ∧ c = c' ∧ a' = a'' ∧ a < a') ∨ (w = true ∧ w' = true)) := by
  unfold iItem sItem
  by_cases h : a < s.size
  · rw [next_in hs h0 h, more_in h, if_pos rfl, peek_in h0 h, Option.bind_some, Option.bind_some]
    dsimp only
    by_cases c93 : bt s a = 93
    · rw [if_neg (by omega), if_neg (by simp), if_pos c93]
      exact ⟨_, _, _, _, _, _, rfl, rfl, by omega, by omega, by omega, by omega, .inr ⟨by simp [c93], rfl⟩⟩
    · rw [if_neg c93]
      by_cases c92 : bt s a = 92
      · rw [if_pos c92, if_pos c92, wrap_id (n := a + 1) (by omega) (by omega)]
        by_cases h2 : a + 1 < s.size
        · rw [next_in hs (by omega) h2, more_in h2, if_pos rfl, got_in hs (by omega) h2]
          exact ⟨_, _, _, _, _, _, rfl, rfl, by omega, by omega, by omega, by omega, .inl ⟨rfl, rfl, rfl, rfl, by omega⟩⟩
        · rw [next_out (by omega), more_out (by omega), if_neg (by simp)]
          exact ⟨_, _, _, _, _, _, rfl, rfl, by omega, by omega, by omega, by omega, .inr ⟨rfl, rfl⟩⟩
      · rw [if_neg c92, if_neg c92, if_neg (by simp), got_in hs h0 h]
        exact ⟨_, _, _, _, _, _, rfl, rfl, by omega, by omega, by omega, by omega, .inl ⟨by simp [c93], rfl, rfl, rfl, by omega⟩⟩
  · rw [next_out (by omega), more_out (by omega), if_neg (by simp), Option.bind_some]
    dsimp only
    rw [if_neg (by omega), if_pos rfl]
    exact ⟨_, _, _, _, _, _, rfl, rfl, by omega, by omega, by omega, by omega, .inr ⟨rfl, rfl⟩⟩
/-- The test for a range. -/
theorem test_same (hs : s.size ≤ 200) {a : Int} {L : List S39} (h0 : 0 ≤ a) (h1 : a ≤ s.size) : ∃ b, iClsT s a = some b ∧ sSetT s ⟨a, L, false⟩ = some b ∧ (b = true → a + 1 < s.size) := by
  unfold iClsT sSetT
  dsimp only
  rw [if_neg (show ¬ (false = true) by simp), wrap_id (n := a + 1) (by omega) (by omega)]
  by_cases h : a < s.size
  · rw [sees45 h0 h, Option.bind_some]
    by_cases h2 : a + 1 < s.size
    · by_cases c : bt s a = 45
      · refine ⟨bt s (a + 1) != 93, ?_, ?_, fun _ => h2⟩
        · rw [if_pos (decide_eq_true c), if_pos h2, if_pos (by omega)]
        · rw [if_pos h2, if_pos h0, if_pos h, if_pos c, if_pos (by omega)]
      · refine ⟨false, ?_, ?_, fun h => by cases h⟩
        · rw [if_neg (by simpa using c)]
        · rw [if_pos h2, if_pos h0, if_pos h, if_neg c]
    · refine ⟨false, ?_, ?_, fun h => by cases h⟩
      · by_cases c : bt s a = 45
        · rw [if_pos (decide_eq_true c), if_neg h2]
        · rw [if_neg (by simpa using c)]
      · rw [if_neg h2]
  · refine ⟨false, ?_, ?_, fun h => by cases h⟩
    · rw [sees_out (a := a) _ (by omega), Option.bind_some, if_neg (by simp)]
    · rw [if_neg (by omega)]
/-- The upper end of a range. -/
theorem high_same (hs : s.size ≤ 200) {a : Int} {d low : Int} {L : List S39} (h0 : 0 ≤ a) (h1 : a ≤ s.size) : ∃ c a' c' a'' w w', iClsH s low ⟨a, d, L, false⟩ = some (c, ⟨a', d, L, w⟩) ∧ sSetH s low ⟨a, L, false⟩ = some (c', ⟨a'', L, w'⟩) ∧ a ≤ a'' ∧ a'' ≤ s.size ∧ a ≤ a' ∧ a' ≤ s.size ∧ ((w = false ∧ w' = false ∧ c = c' ∧ a' = a'') ∨ (w = true ∧ w' = true)) := by
  obtain ⟨b, e1, e2, hb⟩ := test_same (L := L) hs h0 h1
  unfold iClsH sSetH
  rw [e1, e2, Option.bind_some, Option.bind_some]
  cases b with
  | false => exact ⟨_, _, _, _, _, _, rfl, rfl, by omega, by omega, by omega, by omega, .inl ⟨rfl, rfl, rfl, rfl⟩⟩
  | true =>
    have := hb rfl
    rw [if_pos rfl, if_pos rfl, wrap_id (n := a + 1) (by omega) (by omega)]
    obtain ⟨c, a', c', a'', w, w', f1, f2, g1, g2, g3, g4, g5⟩ := item_same hs (a := a + 1) (by omega) (by omega)
    rw [f1, f2, Option.bind_some, Option.bind_some]
    refine ⟨c, a', c', a'', w, w', rfl, rfl, by omega, by omega, by omega, by omega, ?_⟩
    rcases g5 with ⟨q1, q2, q3, q4, q5⟩ | ⟨q1, q2⟩
    · exact .inl ⟨q1, q2, q3, q4⟩
    · exact .inr ⟨q1, q2⟩
end
theorem Out.back {n d e1 e2 bi st a a1 : Int} {L : List S39} {r r' : Int} {σ' : IS} {τ' : SS} (h : Out n d e1 e2 bi st a1 L r σ' r' τ') (ha : a ≤ a1) : Out n d e1 e2 bi st a L r σ' r' τ' := by
  refine ⟨h.len, h.good, by have := h.ge; omega, fun hw => ?_, fun hw => ?_, h.rel, h.lim⟩
  · obtain ⟨h1, h2, h3⟩ := h.ok hw
    exact ⟨h1, by omega, by omega⟩
  · obtain ⟨h1, h2⟩ := h.bad hw
    exact ⟨h1, by omega⟩
section
variable {s : ByteArray}
theorem item_wr (hs : s.size ≤ 200) {a : Int} (h0 : 0 ≤ a) (h1 : a ≤ s.size) : ∃ c a', iItem s a true = some (c, a', true) := by
  unfold iItem
  by_cases h : a < s.size
  · rw [next_in hs h0 h, Option.bind_some]
    dsimp only
    by_cases c92 : bt s a = 92
    · rw [if_pos c92]
      by_cases h2 : a + 1 < s.size
      · rw [next_in hs (by omega) h2]
        exact ⟨_, _, rfl⟩
      · rw [next_out (a := a + 1) (by omega)]
        exact ⟨_, _, rfl⟩
    · rw [if_neg c92, if_pos rfl]
      exact ⟨_, _, rfl⟩
  · rw [next_out (a := a) (by omega), Option.bind_some]
    dsimp only
    rw [if_neg (by omega), if_pos rfl]
    exact ⟨_, _, rfl⟩
theorem high_wr (hs : s.size ≤ 200) {a : Int} {d low : Int} {L : List S39} (h0 : 0 ≤ a) (h1 : a ≤ s.size) : ∃ c a', iClsH s low ⟨a, d, L, true⟩ = some (c, ⟨a', d, L, true⟩) := by
  obtain ⟨b, e1, _, hb⟩ := test_same (L := L) hs h0 h1
  unfold iClsH
  rw [e1, Option.bind_some]
  cases b with
  | false => exact ⟨_, _, rfl⟩
  | true =>
    have := hb rfl
    rw [if_pos rfl, wrap_id (n := a + 1) (by omega) (by omega)]
    obtain ⟨c, a', f1⟩ := item_wr hs (a := a + 1) (by omega) (by omega)
    rw [f1, Option.bind_some]
    exact ⟨_, _, rfl⟩
theorem icls_exit {neg : Bool} {set : List Int} {a d : Int} {L : List S39} (hL : L.length < 100000) (k : Nat) : iClsL s neg (k + 1) set ⟨a, d, L, true⟩ = some ((L.length : Int), ⟨wrap64 (a + 1), d, L ++ [⟨0, neg, strOfNums set, []⟩], true⟩) := by
  simp only [iClsL]
  unfold iClsC
  rw [if_pos rfl, Option.bind_some, if_neg (by simp)]
  unfold iClsE
  rw [iAdd_lt hL]
  rfl
theorem sset_exit {neg fst : Bool} {set : List Int} {a : Int} {L : List S39} (k : Nat) : sSetL s neg (k + 1) fst set ⟨a, L, true⟩ = some (0, ⟨a, L, true⟩) := by
  simp only [sSetL]
  unfold sSetC
  rw [if_pos rfl, Option.bind_some, if_neg (by simp)]
  unfold sSetE
  rw [if_pos rfl]
theorem cls_loop (hs : s.size ≤ 200) {d : Int} (hd0 : 0 ≤ d) (hd : d ≤ 20) (neg : Bool) : ∀ (m : Nat) (a : Int) (set : List Int) (fst : Bool) (L : List S39), (s.size - a).toNat = m → 0 ≤ a → a ≤ s.size → (set.length : Int) ≤ 2 * a → (fst = true ↔ set.length = 0) → (L.length : Int) ≤ 600 →
    ∃ r σ' r' τ', Ev (fun k => iClsL s neg k set ⟨a, d, L, false⟩) (r, σ') ∧ Ev (fun k => sSetL s neg k fst set ⟨a, L, false⟩) (r', τ') ∧ Out s.size d (-1) 0 (641 - 2 * d) 1 a L r σ' r' τ' := by
  intro m
  induction m using Nat.strongRecOn with
  | _ m ih =>
    intro a set fst L hm h0 h1 hset hf hL
    have bodyI : ∀ (hc : iClsC s set ⟨a, d, L, false⟩ = some true), ∀ k, iClsL s neg (k + 1) set ⟨a, d, L, false⟩ = (iItem s a false).bind fun r => (iClsH s r.1 ⟨r.2.1, d, L, r.2.2⟩).bind fun q => iClsL s neg k (set ++ [r.1, q.1]) (iClsS q.2 r.1 q.1) := by
      intro hc k
      simp only [iClsL]
      rw [hc, Option.bind_some, if_pos rfl, if_pos (by omega)]
    have bodyS : ∀ (hc : sSetC s fst ⟨a, L, false⟩ = some true), ∀ k, sSetL s neg (k + 1) fst set ⟨a, L, false⟩ = (sItem s a false).bind fun r => (sSetH s r.1 ⟨r.2.1, L, r.2.2⟩).bind fun q => sSetL s neg k false (set ++ [r.1, q.1]) (if q.1 < r.1 then ⟨q.2.at_, q.2.L, true⟩ else q.2) := by
      intro hc k
      simp only [sSetL]
      rw [hc, Option.bind_some, if_pos rfl, if_pos (by omega)]
    have hLk : L.length < 100000 := by omega
    have wrongI : ∀ {set2 : List Int} {a2 : Int}, ((L ++ [(⟨0, neg, strOfNums set2, []⟩ : S39)]).length : Int) ≤ 641 - 2 * d := by
      intro set2 a2
      rw [List.length_append, List.length_singleton]
      omega
    have goOn : iClsC s set ⟨a, d, L, false⟩ = some true → sSetC s fst ⟨a, L, false⟩ = some true → ∃ r σ' r' τ', Ev (fun k => iClsL s neg k set ⟨a, d, L, false⟩) (r, σ') ∧ Ev (fun k => sSetL s neg k fst set ⟨a, L, false⟩) (r', τ') ∧ Out s.size d (-1) 0 (641 - 2 * d) 1 a L r σ' r' τ' := by
      intro hc1 hc2
      obtain ⟨c, a', c', a'', w, w', e1, e2, g1, g2, g3, g4, g5⟩ := item_same hs h0 h1
      rcases g5 with ⟨rfl, rfl, rfl, rfl, g6⟩ | ⟨rfl, rfl⟩
      · obtain ⟨hi, b, hi', b', v, v', f1, f2, q1, q2, q3, q4, q5⟩ := high_same (d := d) (low := c) (L := L) hs (a := a') (by omega) g4
        rcases q5 with ⟨rfl, rfl, rfl, rfl⟩ | ⟨rfl, rfl⟩
        · by_cases hlt : hi < c
          · refine ⟨_, _, _, _, ⟨2, fun k hk => ?_⟩, ⟨2, fun k hk => ?_⟩, out_bad (a1 := b) (by omega) (by omega) hd (σ' := ⟨wrap64 (b + 1), d, L ++ [⟨0, neg, strOfNums (set ++ [c, hi]), []⟩], true⟩) (r := (L.length : Int)) (r' := 0) rfl (wrongI (a2 := 0))⟩
            · obtain ⟨k, rfl⟩ : ∃ q, k = q + 2 := ⟨k - 2, by omega⟩
              show iClsL s neg (k + 1 + 1) set ⟨a, d, L, false⟩ = _
              rw [bodyI hc1, e1, Option.bind_some, f1, Option.bind_some]
              have hS : iClsS ⟨b, d, L, false⟩ c hi = ⟨b, d, L, true⟩ := by unfold iClsS; simp [hlt]
              dsimp only
              rw [hS, icls_exit hLk]
            · obtain ⟨k, rfl⟩ : ∃ q, k = q + 2 := ⟨k - 2, by omega⟩
              show sSetL s neg (k + 1 + 1) fst set ⟨a, L, false⟩ = _
              rw [bodyS hc2, e2, Option.bind_some, f2, Option.bind_some]
              dsimp only
              rw [if_pos hlt, sset_exit]
          · obtain ⟨r, σ', r', τ', j1, j2, j3⟩ := ih (s.size - b).toNat (by omega) b (set ++ [c, hi]) false L rfl (by omega) q2 (by rw [List.length_append]; simp; omega) (by simp) hL
            refine ⟨r, σ', r', τ', Ev.step (fun k => ?_) j1, Ev.step (fun k => ?_) j2, j3.back (by omega)⟩
            · rw [bodyI hc1, e1, Option.bind_some, f1, Option.bind_some]
              have hS : iClsS ⟨b, d, L, false⟩ c hi = ⟨b, d, L, false⟩ := by unfold iClsS; simp [hlt]
              dsimp only
              rw [hS]
            · rw [bodyS hc2, e2, Option.bind_some, f2, Option.bind_some]
              dsimp only
              rw [if_neg hlt]
        · refine ⟨_, _, _, _, ⟨2, fun k hk => ?_⟩, ⟨2, fun k hk => ?_⟩, out_bad (a1 := b') (by omega) (by omega) hd (σ' := ⟨wrap64 (b + 1), d, L ++ [⟨0, neg, strOfNums (set ++ [c, hi]), []⟩], true⟩) (r := (L.length : Int)) (r' := 0) rfl (wrongI (a2 := 0))⟩
          · obtain ⟨k, rfl⟩ : ∃ q, k = q + 2 := ⟨k - 2, by omega⟩
            show iClsL s neg (k + 1 + 1) set ⟨a, d, L, false⟩ = _
            rw [bodyI hc1, e1, Option.bind_some, f1, Option.bind_some]
            have hS : iClsS ⟨b, d, L, true⟩ c hi = ⟨b, d, L, true⟩ := by unfold iClsS; simp
            dsimp only
            rw [hS, icls_exit hLk]
          · obtain ⟨k, rfl⟩ : ∃ q, k = q + 2 := ⟨k - 2, by omega⟩
            show sSetL s neg (k + 1 + 1) fst set ⟨a, L, false⟩ = _
            rw [bodyS hc2, e2, Option.bind_some, f2, Option.bind_some]
            dsimp only
            rw [show (if hi' < c then (⟨b', L, true⟩ : SS) else ⟨b', L, true⟩) = ⟨b', L, true⟩ by split <;> rfl, sset_exit]
      · obtain ⟨hi, b, f1⟩ := high_wr (d := d) (low := c) (L := L) hs (a := a') (by omega) g4
        refine ⟨_, _, _, _, ⟨2, fun k hk => ?_⟩, ⟨2, fun k hk => ?_⟩, out_bad (a1 := a'') (by omega) (by omega) hd (σ' := ⟨wrap64 (b + 1), d, L ++ [⟨0, neg, strOfNums (set ++ [c, hi]), []⟩], true⟩) (r := (L.length : Int)) (r' := 0) rfl (wrongI (a2 := 0))⟩
        · obtain ⟨k, rfl⟩ : ∃ q, k = q + 2 := ⟨k - 2, by omega⟩
          show iClsL s neg (k + 1 + 1) set ⟨a, d, L, false⟩ = _
          rw [bodyI hc1, e1, Option.bind_some, f1, Option.bind_some]
          have hS : iClsS ⟨b, d, L, true⟩ c hi = ⟨b, d, L, true⟩ := by unfold iClsS; simp
          dsimp only
          rw [hS, icls_exit hLk]
        · obtain ⟨k, rfl⟩ : ∃ q, k = q + 2 := ⟨k - 2, by omega⟩
          show sSetL s neg (k + 1 + 1) fst set ⟨a, L, false⟩ = _
          have f2 : sSetH s c' ⟨a'', L, true⟩ = some (c', ⟨a'', L, true⟩) := by
            unfold sSetH sSetT
            rw [if_pos rfl, Option.bind_some, if_neg (by simp)]
          rw [bodyS hc2, e2, Option.bind_some, f2, Option.bind_some]
          dsimp only
          rw [if_neg (by omega), sset_exit]
    by_cases he : set.length = 0
    · refine goOn ?_ ?_
      · unfold iClsC
        rw [if_neg (by simp), if_pos (by omega)]
      · unfold sSetC
        rw [if_neg (by simp), if_pos (hf.mpr he)]
    · have hf2 : fst = false := by
        cases fst with
        | false => rfl
        | true => exact absurd (hf.mp rfl) he
      subst hf2
      by_cases h : a < s.size
      · by_cases c93 : bt s a = 93
        · refine ⟨_, _, _, _, ⟨1, fun k hk => ?_⟩, ⟨1, fun k hk => ?_⟩, out_add (n := s.size) (x := ⟨0, neg, strOfNums set, []⟩) (a1 := a + 1) (by simp) (by omega) (by omega) hd hL⟩
          · obtain ⟨k, rfl⟩ : ∃ q, k = q + 1 := ⟨k - 1, by omega⟩
            simp only [iClsL]
            unfold iClsC
            rw [if_neg (by simp), if_neg (by omega), sees93 h0 h, Option.bind_some, Option.bind_some, if_neg (by simp [c93])]
            unfold iClsE
            rw [wrap_id (n := a + 1) (by omega) (by omega), iAdd_lt hLk]
          · obtain ⟨k, rfl⟩ : ∃ q, k = q + 1 := ⟨k - 1, by omega⟩
            simp only [sSetL]
            unfold sSetC
            rw [if_neg (by simp), if_neg (by simp), if_pos (more_in h), peek_in h0 h, Option.bind_some, Option.bind_some, if_neg (by simp [c93])]
            unfold sSetE
            rw [if_neg (by simp), peek_in h0 h, Option.bind_some, if_pos c93, wrap_id (n := a + 1) (by omega) (by omega), sNode_lt hLk]
        · refine goOn ?_ ?_
          · unfold iClsC
            rw [if_neg (by simp), if_neg (by omega), sees93 h0 h, Option.bind_some]
            simp [c93]
          · unfold sSetC
            rw [if_neg (by simp), if_neg (by simp), if_pos (more_in h), peek_in h0 h, Option.bind_some]
            simp [c93]
      · have hc1 : iClsC s set ⟨a, d, L, false⟩ = some true := by
          unfold iClsC
          rw [if_neg (by simp), if_neg (by omega), sees_out (a := a) _ (by omega), Option.bind_some]
          rfl
        have e1 : iItem s a false = some (0, a, true) := by
          unfold iItem
          rw [next_out (a := a) (by omega), Option.bind_some]
          dsimp only
          rw [if_neg (by omega), if_pos rfl]
        obtain ⟨hi, b, f1⟩ := high_wr (d := d) (low := 0) (L := L) hs (a := a) h0 h1
        refine ⟨_, _, _, _, ⟨2, fun k hk => ?_⟩, ⟨1, fun k hk => ?_⟩, out_bad (a1 := a) (by omega) (by omega) hd (σ' := ⟨wrap64 (b + 1), d, L ++ [⟨0, neg, strOfNums (set ++ [0, hi]), []⟩], true⟩) (r := (L.length : Int)) (r' := 0) rfl (wrongI (a2 := 0))⟩
        · obtain ⟨k, rfl⟩ : ∃ q, k = q + 2 := ⟨k - 2, by omega⟩
          show iClsL s neg (k + 1 + 1) set ⟨a, d, L, false⟩ = _
          rw [bodyI hc1, e1, Option.bind_some, f1, Option.bind_some]
          have hS : iClsS ⟨b, d, L, true⟩ 0 hi = ⟨b, d, L, true⟩ := by unfold iClsS; simp
          dsimp only
          rw [hS, icls_exit hLk]
        · obtain ⟨k, rfl⟩ : ∃ q, k = q + 1 := ⟨k - 1, by omega⟩
          simp only [sSetL]
          unfold sSetC
          rw [if_neg (by simp), if_neg (by simp), if_neg (by rw [more_out (a := a) (by omega)]; simp), Option.bind_some, if_neg (by simp)]
          unfold sSetE
          rw [if_neg (by simp), peek_out (a := a) (by omega), Option.bind_some, if_neg (by omega)]
/-- A class, from behind its bracket. -/
theorem cls_same (hs : s.size ≤ 200) {d a : Int} {L : List S39} (hd0 : 0 ≤ d) (hd : d ≤ 20) (h0 : 0 ≤ a) (h1 : a < s.size) (hL : (L.length : Int) ≤ 600) :
    ∃ r σ' r' τ', Ev (fun k => iClass s k ⟨a + 1, d, L, false⟩) (r, σ') ∧ Ev (fun k => sSet s k ⟨a, L, false⟩) (r', τ') ∧ Out s.size d (-1) 0 (641 - 2 * d) 1 a L r σ' r' τ' := by
  by_cases c : a + 1 < s.size ∧ bt s (a + 1) = 94
  · obtain ⟨r, σ', r', τ', j1, j2, j3⟩ := cls_loop hs hd0 hd true _ (a + 1 + 1) [] true L rfl (by omega) (by omega) (by simp; omega) (by simp) hL
    refine ⟨r, σ', r', τ', Ev.congr (fun k => ?_) j1, Ev.congr (fun k => ?_) j2, j3.back (by omega)⟩
    · unfold iClass
      dsimp only
      rw [sees94 (by omega) c.1, Option.bind_some, if_pos (decide_eq_true c.2), wrap_id (n := a + 1 + 1) (by omega) (by omega)]
    · unfold sSet
      dsimp only
      rw [wrap_id (n := a + 1) (by omega) (by omega), peek_in (by omega) c.1, Option.bind_some, if_pos c.2, wrap_id (n := a + 1 + 1) (by omega) (by omega)]
  · obtain ⟨r, σ', r', τ', j1, j2, j3⟩ := cls_loop hs hd0 hd false _ (a + 1) [] true L rfl (by omega) (by omega) (by simp; omega) (by simp) hL
    refine ⟨r, σ', r', τ', Ev.congr (fun k => ?_) j1, Ev.congr (fun k => ?_) j2, j3.back (by omega)⟩
    · unfold iClass
      dsimp only
      by_cases c1 : a + 1 < s.size
      · rw [sees94 (by omega) c1, Option.bind_some, if_neg (by simp; exact fun h => c ⟨c1, h⟩)]
      · rw [sees_out (a := a + 1) _ (by omega), Option.bind_some, if_neg (by simp)]
    · unfold sSet
      dsimp only
      rw [wrap_id (n := a + 1) (by omega) (by omega)]
      by_cases c1 : a + 1 < s.size
      · rw [peek_in (by omega) c1, Option.bind_some, if_neg (fun h => c ⟨c1, h⟩)]
      · rw [peek_out (a := a + 1) (by omega), Option.bind_some, if_neg (by omega)]
end
theorem Out.comp {n d e1 e2 bi st e1' e2' bi' st' a a1 f : Int} {L L1 : List S39} {r r' : Int} {σ' : IS} {τ' : SS} (h : Out n d e1 e2 bi st a1 L1 r σ' r' τ') (hl : L.length ≤ L1.length) (hg : Good L → Good L1)
    (ha : a ≤ a1) (hL : (L1.length : Int) ≤ L.length + 3 * (a1 - a) + f) (he1 : e1 + f ≤ e1') (he2 : e2 + f ≤ e2') (hst : a + st' ≤ a1 + st) (hb : bi ≤ bi') (hlim : σ'.wr = false → L.length ≤ 200 → L1.length ≤ 200) :
    Out n d e1' e2' bi' st' a L r σ' r' τ' := by
  refine ⟨Nat.le_trans hl h.len, fun g => h.good (hg g), by have := h.ge; omega, fun hw => ?_, fun hw => ?_, ?_, fun hw hl2 => h.lim hw (hlim hw hl2)⟩
  · obtain ⟨h1, h2, h3⟩ := h.ok hw
    exact ⟨h1, by omega, by omega⟩
  · obtain ⟨h1, h2⟩ := h.bad hw
    exact ⟨h1, by omega⟩
  · rcases h.rel with h1 | ⟨h1, h2, h3⟩
    · exact .inl h1
    · exact .inr ⟨h1, h2, by omega⟩
theorem Out.wrong {n d e1 e2 bi st a bi2 : Int} {L : List S39} {r r' : Int} {σ' : IS} {τ' : SS} (h : Out n d e1 e2 bi st a L r σ' r' τ') (r2 : Int) (σ2 : IS) (hw : σ2.wr = true) (hd : τ'.wr = true ∨ 200 < τ'.L.length) (hb : (σ2.L.length : Int) ≤ bi2) : Out n d e1 e2 bi2 st a L r2 σ2 r' τ' :=
  ⟨h.len, h.good, h.ge, h.ok, h.bad, .inr ⟨hw, hd, hb⟩, fun h2 _ => by rw [hw] at h2; cases h2⟩
/-- Both parsers from place a and row L on. -/
def J (n d e2 bi : Int) (fi : Nat → IS → Option (Int × IS)) (fs : Nat → SS → Option (Int × SS)) (a : Int) (L : List S39) : Prop :=
  ∃ r σ' r' τ', Ev (fun k => fi k ⟨a, d, L, false⟩) (r, σ') ∧ Ev (fun k => fs k ⟨a, L, false⟩) (r', τ') ∧ Out n d (-1) e2 bi 1 a L r σ' r' τ'
section
variable {s : ByteArray}
theorem atom_same (hs : s.size ≤ 200) {d a : Int} {L : List S39} (hd0 : 0 ≤ d) (hd : d ≤ 20) (h0 : 0 ≤ a) (h1 : a ≤ s.size) (hL : (L.length : Int) ≤ 3 * a)
    (ih : a < s.size → d < 20 → J s.size (d + 1) 2 (643 - 2 * (d + 1)) (iWhole s) (fun k => sAlt s k (d + 1)) (a + 1) L) :
    J s.size d 0 (641 - 2 * d) (fun k => iAtom s (iWhole s k) k) (fun k => sAtom s (sAlt s k) k d) a L := by
  have hLk : L.length < 100000 := by omega
  have hL6 : (L.length : Int) ≤ 600 := by omega
  have hb1 : ∀ x : S39, ((L ++ [x]).length : Int) ≤ 641 - 2 * d := fun x => by rw [List.length_append, List.length_singleton]; omega
  by_cases h : a < s.size
  · have HI : ∀ k, iAtom s (iWhole s k) k ⟨a, d, L, false⟩ = _ := fun k => (congrArg (fun o => Option.bind o _) (next_in (wr := false) hs h0 h)).trans (Option.bind_some _ _)
    have HS : ∀ k, sAtom s (sAlt s k) k d ⟨a, L, false⟩ = _ := fun k => (congrArg (fun o => Option.bind o _) (peek_in h0 h)).trans ((Option.bind_some _ _).trans ((if_pos (more_in h)).trans ((congrArg (fun o => Option.bind o _) (hasB _ (bt_ge s a) (bt_lt s a))).trans (Option.bind_some _ _))))
    dsimp only at HI HS
    rw [wrap_id (n := a + 1) (by omega) (by omega)] at HS
    rw [wrap_id (n := d + 1) (by omega) (by omega)] at HI HS
    obtain ⟨c, hc⟩ : ∃ c, bt s a = c := ⟨_, rfl⟩
    rw [hc] at HI HS
    by_cases b : c = 41 ∨ c = 124 ∨ c = 42 ∨ c = 43 ∨ c = 63 ∨ c = 93
    · refine ⟨_, _, _, _, Ev.congr (fun k => (HI k).trans ?_) (Ev.now (0, ⟨a + 1, d, L, true⟩)), Ev.congr (fun k => (HS k).trans ?_) (Ev.now (0, ⟨a, L, true⟩)), out_bad (a1 := a) (by omega) (by omega) hd rfl (by show (L.length : Int) ≤ _; omega)⟩
      · rcases b with rfl | rfl | rfl | rfl | rfl | rfl <;> rfl
      · rw [if_pos (decide_eq_true b)]
    · have hnb : ¬ (decide (c = 41 ∨ c = 124 ∨ c = 42 ∨ c = 43 ∨ c = 63 ∨ c = 93) = true) := by rw [decide_eq_true_eq]; exact b
      have HS2 : ∀ k, _ := fun k => (HS k).trans (if_neg hnb)
      by_cases c40 : c = 40
      · by_cases d20 : d = 20
        · refine ⟨_, _, _, _, Ev.congr (fun k => (HI k).trans ?_) (Ev.now (0, ⟨a + 1, d + 1, L, true⟩)), Ev.congr (fun k => (HS2 k).trans ?_) (Ev.now (0, ⟨a, L, true⟩)), out_bad (a1 := a) (by omega) (by omega) hd rfl (by show (L.length : Int) ≤ _; omega)⟩
          · rw [if_pos c40, if_pos (by omega)]
          · rw [if_pos c40, if_pos d20]
        · obtain ⟨r1, σ1, r1', τ1, j1, j2, j3⟩ := ih h (by omega)
          have hEi : ∀ k, _ := fun k => (HI k).trans ((if_pos c40).trans ((if_neg (by omega)).trans (if_neg (by simp))))
          have hEs : ∀ k, _ := fun k => (HS2 k).trans ((if_pos c40).trans (if_neg d20))
          have hge := j3.ge
          have hup : τ1.at_ ≤ s.size + 20 := by
            cases hw : τ1.wr with
            | false => have := (j3.ok hw).1; omega
            | true => have := (j3.bad hw).1; omega
          obtain ⟨d6, hp6, hp7⟩ : ∃ d6, sPeek s τ1.at_ = some d6 ∧ (d6 = 41 → τ1.at_ < s.size) := by
            by_cases q : τ1.at_ < s.size
            · exact ⟨_, peek_in (by omega) q, fun _ => q⟩
            · exact ⟨_, peek_out (by omega), fun e => by omega⟩
          have spec : Ev (fun k => sAtom s (sAlt s k) k d ⟨a, L, false⟩) (r1', ⟨τ1.at_ + 1, τ1.L, if d6 = 41 then τ1.wr else true⟩) := by
            refine Ev.congr hEs (Ev.bind j2 (Ev.congr (fun k => ?_) (Ev.now _)))
            dsimp only
            rw [hp6, Option.bind_some, wrap_id (n := τ1.at_ + 1) (by omega) (by omega)]
          have hlen := j3.len
          have hOk : (if d6 = 41 then τ1.wr else true) = false → d6 = 41 ∧ τ1.wr = false := by
            intro e
            by_cases q : d6 = 41
            · rw [if_pos q] at e; exact ⟨q, e⟩
            · rw [if_neg q] at e; cases e
          have base : ∀ (r : Int) (σ' : IS), σ'.wr = true → ((if d6 = 41 then τ1.wr else true) = true ∨ 200 < τ1.L.length) → (σ'.L.length : Int) ≤ 641 - 2 * d → Out s.size d (-1) 0 (641 - 2 * d) 1 a L r σ' r1' ⟨τ1.at_ + 1, τ1.L, if d6 = 41 then τ1.wr else true⟩ := by
            intro r σ' hw hdo hbi
            refine ⟨hlen, j3.good, by show a ≤ τ1.at_ + 1; omega, fun e => ?_, fun e => ?_, .inr ⟨hw, hdo, hbi⟩, fun e _ => by rw [hw] at e; cases e⟩
            · obtain ⟨q1, q2⟩ := hOk e
              obtain ⟨q3, q4, q5⟩ := j3.ok q2
              have := hp7 q1
              exact ⟨by show τ1.at_ + 1 ≤ _; omega, by show _ ≤ τ1.at_ + 1; omega, by show (τ1.L.length : Int) ≤ _ + 3 * (τ1.at_ + 1 - a) + -1; omega⟩
            · cases hw1 : τ1.wr with
              | false =>
                obtain ⟨q3, q4, q5⟩ := j3.ok hw1
                exact ⟨by show τ1.at_ + 1 ≤ _; omega, by show (τ1.L.length : Int) ≤ _ + 3 * (τ1.at_ + 1 - a) + 0; omega⟩
              | true =>
                obtain ⟨q3, q4⟩ := j3.bad hw1
                exact ⟨by show τ1.at_ + 1 ≤ _; omega, by show (τ1.L.length : Int) ≤ _ + 3 * (τ1.at_ + 1 - a) + 0; omega⟩
          rcases j3.rel with ⟨w1, w2, q1, q2, q3, q4⟩ | ⟨w1, w2, w3⟩
          · obtain ⟨at1, dp1, L1, wr1⟩ := σ1
            obtain ⟨at2, L2, wr2⟩ := τ1
            dsimp only at w1 w2 q1 q2 q3 q4 hp6 hp7 hge hup hlen hOk base spec
            subst w1; subst w2; subst q1; subst q2; subst q3; subst q4
            obtain ⟨q5, q6, q7⟩ := j3.ok rfl
            dsimp only at q5 q6 q7
            by_cases q : at1 < s.size
            · have hd6 : d6 = bt s at1 := by rw [peek_in (by omega) q] at hp6; exact (Option.some.inj hp6).symm
              have impl : Ev (fun k => iAtom s (iWhole s k) k ⟨a, d, L, false⟩) (r1, ⟨at1 + 1, d, L1, d6 != 41⟩) := by
                refine Ev.congr hEi (Ev.bind j1 (Ev.congr (fun k => ?_) (Ev.now _)))
                dsimp only
                rw [if_neg (by simp), next_in hs (by omega) q, Option.bind_some, wrap_id (n := d + 1 - 1) (by omega) (by omega), show d + 1 - 1 = d by omega, hd6]
              by_cases e41 : d6 = 41
              · refine ⟨_, _, _, _, impl, spec, ⟨hlen, j3.good, by show a ≤ at1 + 1; omega, fun _ => ⟨by show at1 + 1 ≤ _; omega, by show _ ≤ at1 + 1; omega, by show (L1.length : Int) ≤ _ + 3 * (at1 + 1 - a) + -1; omega⟩, (fun e => by simp [e41] at e), .inl ⟨by simp [e41], by simp [e41], rfl, rfl, rfl, rfl⟩, fun _ hl => j3.lim rfl hl⟩⟩
              · exact ⟨_, _, _, _, impl, spec, base _ _ (by simp [e41]) (.inl (by simp [e41])) (by show (L1.length : Int) ≤ _; omega)⟩
            · have hd6 : d6 = 0 := by rw [peek_out (a := at1) (by omega)] at hp6; exact (Option.some.inj hp6).symm
              have impl : Ev (fun k => iAtom s (iWhole s k) k ⟨a, d, L, false⟩) (r1, ⟨at1, d, L1, true⟩) := by
                refine Ev.congr hEi (Ev.bind j1 (Ev.congr (fun k => ?_) (Ev.now _)))
                dsimp only
                rw [if_neg (by simp), next_out (a := at1) (by omega), Option.bind_some, wrap_id (n := d + 1 - 1) (by omega) (by omega), show d + 1 - 1 = d by omega]
                rfl
              exact ⟨_, _, _, _, impl, spec, base _ _ rfl (.inl (by simp [hd6])) (by show (L1.length : Int) ≤ _; omega)⟩
          · have impl : Ev (fun k => iAtom s (iWhole s k) k ⟨a, d, L, false⟩) (r1, ⟨σ1.at_, wrap64 (σ1.deep - 1), σ1.L, true⟩) := by
              refine Ev.congr hEi (Ev.bind j1 (Ev.congr (fun k => ?_) (Ev.now _)))
              dsimp only
              rw [if_pos w1]
            refine ⟨_, _, _, _, impl, spec, base _ _ rfl ?_ (by show (σ1.L.length : Int) ≤ _; omega)⟩
            rcases w2 with w2 | w2
            · exact .inl (by rw [w2]; split <;> rfl)
            · exact .inr w2
      · have addc : ∀ (x : S39), x.f3.length ≤ 300 → (∀ k, iAtom s (iWhole s k) k ⟨a, d, L, false⟩ = iAdd ⟨a + 1, d, L, false⟩ x) → (∀ k, sAtom s (sAlt s k) k d ⟨a, L, false⟩ = sNode ⟨a + 1, L, false⟩ x) → J s.size d 0 (641 - 2 * d) (fun k => iAtom s (iWhole s k) k) (fun k => sAtom s (sAlt s k) k d) a L := by
          intro x hx e1 e2
          exact ⟨_, _, _, _, Ev.congr (fun k => (e1 k).trans (iAdd_lt hLk)) (Ev.now _), Ev.congr (fun k => (e2 k).trans (sNode_lt hLk)) (Ev.now _), out_add (a1 := a + 1) hx (by omega) (by omega) hd hL6⟩
        by_cases c94 : c = 94
        · exact addc ⟨1, false, ⟨#[]⟩, []⟩ (by simp) (fun k => (HI k).trans (by rw [if_neg c40, if_pos c94])) (fun k => (HS2 k).trans (by rw [if_neg c40, if_neg (by omega), if_pos c94]))
        by_cases c36 : c = 36
        · exact addc ⟨2, false, ⟨#[]⟩, []⟩ (by simp) (fun k => (HI k).trans (by rw [if_neg c40, if_neg c94, if_pos c36])) (fun k => (HS2 k).trans (by rw [if_neg c40, if_neg (by omega), if_neg c94, if_pos c36]))
        by_cases c46 : c = 46
        · exact addc ⟨0, true, ⟨#[]⟩, []⟩ (by simp) (fun k => (HI k).trans (by rw [if_neg c40, if_neg c94, if_neg c36, if_pos c46])) (fun k => (HS2 k).trans (by rw [if_neg c40, if_neg (by omega), if_neg c94, if_neg c36, if_pos c46]))
        by_cases c91 : c = 91
        · obtain ⟨r, σ', r', τ', j1, j2, j3⟩ := cls_same hs hd0 hd h0 h hL6
          exact ⟨r, σ', r', τ', Ev.congr (fun k => (HI k).trans (by rw [if_neg c40, if_neg c94, if_neg c36, if_neg c46, if_pos c91])) j1, Ev.congr (fun k => (HS2 k).trans (by rw [if_neg c40, if_pos c91])) j2, j3⟩
        by_cases c92 : c = 92
        · have hEi : ∀ k, iAtom s (iWhole s k) k ⟨a, d, L, false⟩ = _ := fun k => (HI k).trans (by rw [if_neg c40, if_neg c94, if_neg c36, if_neg c46, if_neg c91, if_pos c92])
          have hEs : ∀ k, sAtom s (sAlt s k) k d ⟨a, L, false⟩ = _ := fun k => (HS2 k).trans (by rw [if_neg c40, if_neg c91, if_neg c94, if_neg c36, if_neg c46, if_pos c92])
          by_cases q : a + 1 < s.size
          · refine ⟨_, _, _, _, Ev.congr (fun k => (hEi k).trans ?_) (Ev.now _), Ev.congr (fun k => (hEs k).trans ?_) (Ev.now _), out_add (n := s.size) (x := ⟨0, false, strOfNums [bt s (a + 1), bt s (a + 1)], []⟩) (a1 := a + 1 + 1) (by simp) (by omega) (by omega) hd hL6⟩
            · rw [next_in hs (by omega) q, Option.bind_some]
              exact iAdd_lt hLk
            · rw [if_pos (more_in q), got_in hs (by omega) q, Option.bind_some]
              exact sNode_lt hLk
          · refine ⟨_, _, _, _, Ev.congr (fun k => (hEi k).trans ?_) (Ev.now (((L.length : Nat) : Int), ⟨a + 1, d, L ++ [⟨0, false, strOfNums [0, 0], []⟩], true⟩)), Ev.congr (fun k => (hEs k).trans ?_) (Ev.now (0, ⟨a + 1, L, true⟩)), out_bad (a1 := a + 1) (by omega) (by omega) hd rfl (hb1 _)⟩
            · rw [next_out (a := a + 1) (by omega), Option.bind_some]
              exact iAdd_lt hLk
            · rw [if_neg (by rw [more_out (a := a + 1) (by omega)]; simp)]
        exact addc ⟨0, false, strOfNums [c, c], []⟩ (by simp) (fun k => (HI k).trans (by rw [if_neg c40, if_neg c94, if_neg c36, if_neg c46, if_neg c91, if_neg c92, if_neg (by omega), if_neg (by omega), if_neg (by omega), if_neg (by omega), if_neg (by omega), if_neg (by omega)]; rfl)) (fun k => (HS2 k).trans (by rw [if_neg c40, if_neg c91, if_neg c94, if_neg c36, if_neg c46, if_neg c92]))
  · refine ⟨_, _, _, _, Ev.congr (fun k => ?_) (Ev.now (((L.length : Nat) : Int), ⟨a, d, L ++ [⟨0, false, strOfNums [0, 0], []⟩], true⟩)), Ev.congr (fun k => ?_) (Ev.now (0, ⟨a, L, true⟩)), out_bad (a1 := a) (by omega) (by omega) hd rfl (hb1 _)⟩
    · show iAtom s (iWhole s k) k ⟨a, d, L, false⟩ = _
      unfold iAtom
      dsimp only
      rw [next_out (a := a) (by omega), Option.bind_some]
      exact iAdd_lt hLk
    · show sAtom s (sAlt s k) k d ⟨a, L, false⟩ = _
      unfold sAtom
      dsimp only
      rw [peek_out (a := a) (by omega), Option.bind_some, if_neg (by rw [more_out (a := a) (by omega)]; simp)]
end
/-- From some fuel on, for both fuels. -/
def Ev2 {α : Type} (f : Nat → Nat → Option α) (r : α) : Prop := ∃ K, ∀ k j, K ≤ k → K ≤ j → f k j = some r
theorem Ev2.step {α : Type} {f g : Nat → Nat → Option α} {r : α} (h : ∀ k j, g k (j + 1) = f k j) (e : Ev2 f r) : Ev2 g r := by
  obtain ⟨K, e⟩ := e
  refine ⟨K + 1, fun k j hk hj => ?_⟩
  obtain ⟨j, rfl⟩ : ∃ q, j = q + 1 := ⟨j - 1, by omega⟩
  rw [h]
  exact e k j (by omega) (by omega)
theorem Ev2.now {α : Type} (r : α) : Ev2 (fun _ _ => some r) r := ⟨0, fun _ _ _ _ => rfl⟩
theorem Ev2.bind {α β : Type} {g : Nat → Option α} {f : Nat → Nat → α → Option β} {a : α} {r : β} (h : Ev g a) (e : Ev2 (fun k j => f k j a) r) : Ev2 (fun k j => (g k).bind (f k j)) r := by
  obtain ⟨K, h⟩ := h
  obtain ⟨K', e⟩ := e
  refine ⟨max K K', fun k j hk hj => ?_⟩
  show (g k).bind (f k j) = _
  rw [h k (by omega), Option.bind_some]
  exact e k j (by omega) (by omega)
theorem Ev2.diag {α : Type} {f : Nat → Nat → Option α} {r : α} (e : Ev2 f r) : Ev (fun k => f k k) r := by
  obtain ⟨K, e⟩ := e
  exact ⟨K, fun k hk => e k k hk hk⟩
/-- What stands still. -/
theorem out_still {n d e1 e2 bi a : Int} {L : List S39} {r : Int} (h1 : a ≤ n) (h : 0 ≤ e1) : Out n d e1 e2 bi 0 a L r ⟨a, d, L, false⟩ r ⟨a, L, false⟩ :=
  ⟨Nat.le_refl _, fun h => h, Int.le_refl _, fun _ => ⟨h1, by show a + 0 ≤ a; omega, by show (L.length : Int) ≤ L.length + 3 * (a - a) + e1; omega⟩, (fun h => by cases h), .inl ⟨rfl, rfl, rfl, rfl, rfl, rfl⟩, fun _ h => h⟩
section
variable {s : ByteArray}
theorem irep_exit (k : Nat) {out : Int} {σ : IS} (h : σ.wr = true) : iRepL s (k + 1) out σ = some (out, σ) := by
  simp only [iRepL]
  rw [if_pos h]
theorem srep_exit (k : Nat) {out : Int} {τ : SS} (h : τ.wr = true) : sRepL s (k + 1) out τ = some (out, τ) := by
  simp only [sRepL]
  rw [if_pos h]
theorem repL_same (hs : s.size ≤ 200) {d : Int} (hd0 : 0 ≤ d) (hd : d ≤ 20) : ∀ (m : Nat) (a : Int) (out : Int) (L : List S39), (s.size - a).toNat = m → 0 ≤ a → a ≤ s.size → (L.length : Int) ≤ 3 * a →
    ∃ r σ' r' τ', Ev (fun k => iRepL s k out ⟨a, d, L, false⟩) (r, σ') ∧ Ev (fun k => sRepL s k out ⟨a, L, false⟩) (r', τ') ∧ Out s.size d 0 0 (641 - 2 * d) 0 a L r σ' r' τ' := by
  intro m
  induction m using Nat.strongRecOn with
  | _ m ih =>
    intro a out L hm h0 h1 hL
    have hLk : L.length < 100000 := by omega
    by_cases h : a < s.size
    · by_cases c : bt s a = 42 ∨ bt s a = 43 ∨ bt s a = 63
      · obtain ⟨x, hx⟩ : ∃ x : S39, x = ⟨sKind (bt s a), false, ⟨#[]⟩, [out]⟩ := ⟨_, rfl⟩
        have hl : (L ++ [x]).length = L.length + 1 := by simp
        obtain ⟨r, σ', r', τ', j1, j2, j3⟩ := ih (s.size - (a + 1)).toNat (by omega) (a + 1) (L.length : Int) (L ++ [x]) rfl (by omega) (by omega) (by omega)
        have spec : Ev (fun k => sRepL s k out ⟨a, L, false⟩) (r', τ') := by
          refine Ev.step (fun k => ?_) j2
          simp only [sRepL]
          rw [if_neg (by simp), if_pos (more_in h), peek_in h0 h, Option.bind_some, hasO _ (bt_ge s a) (bt_lt s a), Option.bind_some, if_pos (decide_eq_true c), wrap_id (n := a + 1) (by omega) (by omega), ← hx, sNode_lt hLk, Option.bind_some]
        have hI : ∀ k, iRepL s (k + 1) out ⟨a, d, L, false⟩ = iRepL s k (L.length : Int) ⟨a + 1, d, L ++ [x], decide ((200 : Int) < (L.length : Int) + 1)⟩ := fun k => by
          simp only [iRepL]
          rw [if_neg (by simp), seesO h0 h, Option.bind_some, if_pos (decide_eq_true c), next_in hs h0 h, Option.bind_some, ixK _ c, ← hx, iAdd_lt hLk, Option.bind_some]
          rfl
        have comp : ∀ {r : Int} {σ' : IS}, Out s.size d 0 0 (641 - 2 * d) 0 (a + 1) (L ++ [x]) r σ' r' τ' → (σ'.wr = false → L.length ≤ 200 → (L ++ [x]).length ≤ 200) → Out s.size d 0 0 (641 - 2 * d) 0 a L r σ' r' τ' := fun j hlim =>
          j.comp (f := 0) (by omega) (fun g => g.snoc (by rw [hx]; simp)) (by omega) (by omega) (by omega) (by omega) (by omega) (by omega) hlim
        by_cases c2 : (200 : Int) < (L.length : Int) + 1
        · refine ⟨(L.length : Int), ⟨a + 1, d, L ++ [x], true⟩, r', τ', ⟨2, fun k hk => ?_⟩, spec, comp (j3.wrong _ _ rfl (.inr ?_) (by show ((L ++ [x]).length : Int) ≤ _; omega)) (fun e => by cases e)⟩
          · obtain ⟨k, rfl⟩ : ∃ q, k = q + 2 := ⟨k - 2, by omega⟩
            show iRepL s (k + 1 + 1) out ⟨a, d, L, false⟩ = _
            rw [hI, decide_eq_true c2, irep_exit k rfl]
          · have := j3.len
            omega
        · refine ⟨r, σ', r', τ', Ev.step (fun k => ?_) j1, spec, comp j3 (fun _ _ => by omega)⟩
          rw [hI, decide_eq_false c2]
      · refine ⟨out, ⟨a, d, L, false⟩, out, ⟨a, L, false⟩, ⟨1, fun k hk => ?_⟩, ⟨1, fun k hk => ?_⟩, out_still h1 (by omega)⟩
        · obtain ⟨k, rfl⟩ : ∃ q, k = q + 1 := ⟨k - 1, by omega⟩
          simp only [iRepL]
          rw [if_neg (by simp), seesO h0 h, Option.bind_some, if_neg (by rw [decide_eq_true_eq]; exact c)]
        · obtain ⟨k, rfl⟩ : ∃ q, k = q + 1 := ⟨k - 1, by omega⟩
          simp only [sRepL]
          rw [if_neg (by simp), if_pos (more_in h), peek_in h0 h, Option.bind_some, hasO _ (bt_ge s a) (bt_lt s a), Option.bind_some, if_neg (by rw [decide_eq_true_eq]; exact c)]
    · refine ⟨out, ⟨a, d, L, false⟩, out, ⟨a, L, false⟩, ⟨1, fun k hk => ?_⟩, ⟨1, fun k hk => ?_⟩, out_still h1 (by omega)⟩
      · obtain ⟨k, rfl⟩ : ∃ q, k = q + 1 := ⟨k - 1, by omega⟩
        simp only [iRepL]
        rw [if_neg (by simp), sees_out (a := a) _ (by omega), Option.bind_some, if_neg (by simp)]
      · obtain ⟨k, rfl⟩ : ∃ q, k = q + 1 := ⟨k - 1, by omega⟩
        simp only [sRepL]
        rw [if_neg (by simp), if_neg (by rw [more_out (a := a) (by omega)]; simp)]
theorem rep_same (hs : s.size ≤ 200) {d a : Int} {L : List S39} {Ai : Nat → IS → Option (Int × IS)} {As : Nat → SS → Option (Int × SS)} (hd0 : 0 ≤ d) (hd : d ≤ 20) (h0 : 0 ≤ a) (hL : (L.length : Int) ≤ 3 * a)
    (hA : J s.size d 0 (641 - 2 * d) Ai As a L) : J s.size d 0 (641 - 2 * d) (fun k => iRep s (Ai k) k) (fun k => sRep s (As k) k) a L := by
  obtain ⟨r1, σ1, r1', τ1, j1, j2, j3⟩ := hA
  rcases j3.rel with ⟨w1, w2, q1, q2, q3, q4⟩ | ⟨w1, w2, w3⟩
  · obtain ⟨at1, dp1, L1, wr1⟩ := σ1
    obtain ⟨at2, L2, wr2⟩ := τ1
    dsimp only at w1 w2 q1 q2 q3 q4
    subst w1; subst w2; subst q1; subst q2; subst q3; subst q4
    obtain ⟨g1, g2, g3⟩ := j3.ok rfl
    dsimp only at g1 g2 g3
    obtain ⟨r, σ', r', τ', i1, i2, i3⟩ := repL_same hs hd0 hd _ at1 r1 L1 rfl (by omega) g1 (by omega)
    exact ⟨r, σ', r', τ', Ev.bind (f := fun n (r : Int × IS) => iRepL s n r.1 r.2) j1 i1, Ev.bind (f := fun n (r : Int × SS) => sRepL s n r.1 r.2) j2 i2, i3.comp (f := -1) j3.len j3.good (by omega) (by omega) (by omega) (by omega) (by omega) (by omega) (fun _ hl => j3.lim rfl hl)⟩
  · have impl : Ev (fun k => iRep s (Ai k) k ⟨a, d, L, false⟩) (r1, σ1) := Ev.bind (f := fun n (r : Int × IS) => iRepL s n r.1 r.2) j1 ⟨1, fun k hk => by
      obtain ⟨k, rfl⟩ : ∃ q, k = q + 1 := ⟨k - 1, by omega⟩
      exact irep_exit k w1⟩
    cases hw : τ1.wr with
    | true =>
      refine ⟨r1, σ1, r1', τ1, impl, Ev.bind (f := fun n (r : Int × SS) => sRepL s n r.1 r.2) j2 ⟨1, fun k hk => ?_⟩, j3⟩
      obtain ⟨k, rfl⟩ : ∃ q, k = q + 1 := ⟨k - 1, by omega⟩
      exact srep_exit k hw
    | false =>
      obtain ⟨g1, g2, g3⟩ := j3.ok hw
      obtain ⟨at1, L1, wr1⟩ := τ1
      dsimp only at hw g1 g2 g3 w2
      subst hw
      obtain ⟨r, σ', r', τ', i1, i2, i3⟩ := repL_same hs hd0 hd _ at1 r1' L1 rfl (by omega) g1 (by omega)
      have hdo : 200 < L1.length := by
        rcases w2 with w2 | w2
        · cases w2
        · exact w2
      have i4 := i3.wrong (bi2 := 641 - 2 * d) r1 σ1 w1 (.inr (by have := i3.len; omega)) w3
      exact ⟨r1, σ1, r', τ', impl, Ev.bind (f := fun n (r : Int × SS) => sRepL s n r.1 r.2) j2 i2, i4.comp (f := -1) j3.len j3.good (by omega) (by omega) (by omega) (by omega) (by omega) (by omega) (fun e => by rw [w1] at e; cases e)⟩

/-! ### kids joined -/
theorem joined_same {n d a e2 bi : Int} {L : List S39} {ks : List Int} {kind : Int} (h1 : a ≤ n) (hk : ks.length ≤ 300) (hk1 : 1 ≤ ks.length) (hL : (L.length : Int) ≤ 600) (hbi : 601 ≤ bi) :
    ∃ r σ' r' τ', iJoined kind ks ⟨a, d, L, false⟩ = some (r, σ') ∧ sJoined kind ks ⟨a, L, false⟩ = some (r', τ') ∧ Out n d (if 2 ≤ ks.length then 1 else 0) e2 bi 0 a L r σ' r' τ' := by
  unfold iJoined sJoined
  by_cases c : (ks.length : Int) = 1
  · rw [if_pos c, if_pos c, if_neg (by omega)]
    exact ⟨_, _, _, _, rfl, rfl, out_still h1 (by omega)⟩
  · rw [if_neg c, if_neg c, if_pos (by omega), iAdd_lt (by show L.length < 100000; omega), sNode_lt (by show L.length < 100000; omega)]
    have hl : (L ++ [(⟨kind, false, ⟨#[]⟩, ks⟩ : S39)]).length = L.length + 1 := by simp
    refine ⟨_, _, _, _, rfl, rfl, ⟨by show L.length ≤ (L ++ [_]).length; omega, fun h => h.snoc hk, Int.le_refl _, fun _ => ⟨h1, by show a + 0 ≤ a; omega, by show ((L ++ [_]).length : Int) ≤ L.length + 3 * (a - a) + 1; omega⟩, (fun h => by cases h), ?_, fun h _ => ?_⟩⟩
    · by_cases c2 : (200 : Int) < (L.length : Int) + 1
      · refine .inr ⟨by simp [c2], .inr (by show 200 < (L ++ [_]).length; omega), by show ((L ++ [_]).length : Int) ≤ _; omega⟩
      · exact .inl ⟨by simp [c2], rfl, rfl, rfl, rfl, rfl⟩
    · show (L ++ [_]).length ≤ 200
      simp at h
      omega
/-- The program joins where it has gone wrong. -/
theorem ijoin_wrong {kind : Int} {ks : List Int} {σ : IS} (hw : σ.wr = true) (hl : σ.L.length < 100000) : ∃ r σ', iJoined kind ks σ = some (r, σ') ∧ σ'.wr = true ∧ σ'.L.length ≤ σ.L.length + 1 := by
  unfold iJoined
  by_cases c : (ks.length : Int) = 1
  · rw [if_pos c]
    exact ⟨_, _, rfl, hw, by omega⟩
  · rw [if_neg c, iAdd_lt hl]
    exact ⟨_, _, rfl, by simp [hw], by simp⟩
theorem sjoin_wrong {kind : Int} {ks : List Int} {τ : SS} (hw : τ.wr = true) (hl : τ.L.length < 100000) (hk : ks.length ≤ 300) : ∃ r τ', sJoined kind ks τ = some (r, τ') ∧ τ'.wr = true ∧ τ'.at_ = τ.at_ ∧ τ.L.length ≤ τ'.L.length ∧ τ'.L.length ≤ τ.L.length + 1 ∧ (Good τ.L → Good τ'.L) := by
  unfold sJoined
  by_cases c : (ks.length : Int) = 1
  · rw [if_pos c]
    exact ⟨_, _, rfl, hw, rfl, by omega, by omega, fun h => h⟩
  · rw [if_neg c, sNode_lt hl]
    exact ⟨_, _, rfl, hw, rfl, by simp, by simp, fun h => h.snoc hk⟩
theorem ipart_exit (R : IS → Option (Int × IS)) (k : Nat) {ks : List Int} {σ : IS} (h : σ.wr = true) : iPartL s R (k + 1) ks σ = iJoined 3 ks σ := by
  simp only [iPartL]
  rw [if_pos h]
theorem sseq_exit (R : SS → Option (Int × SS)) (k : Nat) {ks : List Int} {τ : SS} (h : τ.wr = true) : sSeqL s R (k + 1) ks τ = sJoined 3 ks τ := by
  simp only [sSeqL]
  rw [if_pos h]
theorem iwhole_exit (R : IS → Option (Int × IS)) (k : Nat) {ks : List Int} {σ : IS} (h : σ.wr = true) : iWholeL s R (k + 1) ks σ = iJoined 4 ks σ := by
  simp only [iWholeL]
  rw [if_pos h]
theorem salt_exit (R : SS → Option (Int × SS)) (k : Nat) {ks : List Int} {τ : SS} (h : τ.wr = true) : sAltL s R (k + 1) ks τ = sJoined 4 ks τ := by
  simp only [sAltL]
  rw [if_pos h]
/-- Both have gone wrong within a kid, and join. -/
theorem out_joined {n d a e1 e2 e2' bi : Int} {L : List S39} {r r1 r' r1' : Int} {σ1 σ' : IS} {τ1 τ' : SS} {e0 b0 st st' : Int} (j : Out n d e0 e2 b0 st a L r1 σ1 r1' τ1) (hw : τ1.wr = true) (hw2 : τ'.wr = true) (hat : τ'.at_ = τ1.at_) (hl : τ1.L.length ≤ τ'.L.length) (hl2 : τ'.L.length ≤ τ1.L.length + 1) (hg : Good τ1.L → Good τ'.L)
    (hi : σ'.wr = true) (hb : (σ'.L.length : Int) ≤ bi) (he : e2 + 1 ≤ e2') : Out n d e1 e2' bi st' a L r σ' r' τ' := by
  refine ⟨Nat.le_trans j.len hl, fun g => hg (j.good g), by rw [hat]; exact j.ge, (fun e => by rw [hw2] at e; cases e), fun _ => ?_, .inr ⟨hi, .inl hw2, hb⟩, fun e _ => by rw [hi] at e; cases e⟩
  obtain ⟨h1, h2⟩ := j.bad hw
  rw [hat]
  exact ⟨h1, by omega⟩
end
end Go.Proofs.Ytmddcohelcciaaa.PFnExactReParse.H
