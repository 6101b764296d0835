/- Lex: texts, regular expressions, names and signs, alike on both sides. -/
import Derived.Test.YtmddcohelcciaacDoorPFnExactLexx
import Derived.Test.YtmddcohelcciaacDoorLFnExactLexReadDec
import Derived.Test.YtmddcohelcciaacDoorLFnExactLexLexChars
import Derived.Test.YtmddcohelcciaacDoorLFnExactLexLexToks
import Derived.Test.YtmddcohelcciaacDoorXLem
namespace Go.Proofs.YtmddcohelcciaacDoor.PFnExactLex
set_option linter.unusedVariables false
set_option linter.unusedSimpArgs false
open Go.RowKit Go.Proofs.YtmddcohelcciaacDoorW.PrintWords Go.Proofs.YtmddcohelcciaacDoorW.PrintLast Go.Proofs.YtmddcohelcciaacDoorW.PrintMore Go.Proofs.YtmddcohelcciaacDoor.XL
theorem byte_of (c : Int) (h0 : 0 ≤ c) (h1 : c ≤ 255) : ((c.toNat.toUInt8).toNat : Int) = c := by
  have : c.toNat < 256 := by omega
  simp [Nat.toUInt8, UInt8.toNat_ofNat']
  omega
/-- Which of the four bytes that may stand behind a stroke it is. -/
theorem esc_index (c : Int) (h0 : 0 ≤ c) (h1 : c ≤ 255) : Lib.indexByte [110, 116, 34, 92] c.toNat.toUInt8 = (if c = 110 then 0 else if c = 116 then 1 else if c = 34 then 2 else if c = 92 then 3 else -1) := by
  have eq : ∀ x : UInt8, (x == c.toNat.toUInt8) = decide ((x.toNat : Int) = c) := by
    intro x
    have e := byte_of c h0 h1
    by_cases h : (x.toNat : Int) = c
    · rw [decide_eq_true h, beq_iff_eq, ← UInt8.toNat_inj]
      omega
    · rw [decide_eq_false h]
      refine beq_false_of_ne fun z => h ?_
      rw [z]
      exact e
  simp only [Lib.indexByte, eq]
  by_cases c1 : c = 110
  · subst c1
    decide
  · by_cases c2 : c = 116
    · subst c2
      decide
    · by_cases c3 : c = 34
      · subst c3
        decide
      · by_cases c4 : c = 92
        · subst c4
          decide
        · have e1 : decide (((110 : UInt8).toNat : Int) = c) = false := decide_eq_false (fun z => c1 z.symm)
          have e2 : decide (((116 : UInt8).toNat : Int) = c) = false := decide_eq_false (fun z => c2 z.symm)
          have e3 : decide (((34 : UInt8).toNat : Int) = c) = false := decide_eq_false (fun z => c3 z.symm)
          have e4 : decide (((92 : UInt8).toNat : Int) = c) = false := decide_eq_false (fun z => c4 z.symm)
          rw [e1, e2, e3, e4, if_neg c1, if_neg c2, if_neg c3, if_neg c4]
          rfl
section
variable {s : ByteArray} (hs : s.size ≤ 4000) (a : Nat) (ha : a < s.size)
include hs ha
theorem str_loop : ∀ (m d j : Nat) (out : List Int), d ≤ m → a + j + d = s.size → out.length ≤ j →
    ∃ (tx : ByteArray) (n : Nat), Ev (fun k => impl_lexString.l0 k (rest s a) out (j : Int)) (tx, (n : Int)) ∧ ((n = 0 ∧ ∃ R : Int × ByteArray × Int × Int × Int, R.2.2.2.2 < 0 ∧ Ev (fun k => spec_l3str.l0 k s (a : Int) out ((a + j : Nat) : Int)) R) ∨ (0 < n ∧ a + n ≤ s.size ∧ Ev (fun k => spec_l3str.l0 k s (a : Int) out ((a + j : Nat) : Int)) (2, tx, 0, (a : Int), ((a + n : Nat) : Int)))) := by
  have hz := rest_size s a
  intro m
  induction m with
  | zero =>
    intro d j out hd h ho
    refine ⟨(⟨#[]⟩ : ByteArray), 0, Ev.step (f := fun _ => some _) (fun k => ?_) (Ev.now _), .inl ⟨rfl, (0, (⟨#[]⟩ : ByteArray), 0, 0, -1), by decide, Ev.step (f := fun _ => some _) (fun k => ?_) (Ev.now _)⟩⟩
    · simp only [impl_lexString.l0]
      rw [if_neg (by omega)]
      rfl
    · simp only [spec_l3str.l0]
      rw [if_neg (by omega)]
  | succ m ih =>
    intro d j out hd h ho
    by_cases hj : a + j < s.size
    · have hb := rest_bt s a j hj
      have fail : (∀ k, impl_lexString.l0 (k + 1) (rest s a) out (j : Int) = some ((⟨#[]⟩ : ByteArray), 0)) → (∀ k, spec_l3str.l0 (k + 1) s (a : Int) out ((a + j : Nat) : Int) = some (0, (⟨#[]⟩ : ByteArray), 0, 0, -1)) →
          ∃ (tx : ByteArray) (n : Nat), Ev (fun k => impl_lexString.l0 k (rest s a) out (j : Int)) (tx, (n : Int)) ∧ ((n = 0 ∧ ∃ R : Int × ByteArray × Int × Int × Int, R.2.2.2.2 < 0 ∧ Ev (fun k => spec_l3str.l0 k s (a : Int) out ((a + j : Nat) : Int)) R) ∨ (0 < n ∧ a + n ≤ s.size ∧ Ev (fun k => spec_l3str.l0 k s (a : Int) out ((a + j : Nat) : Int)) (2, tx, 0, (a : Int), ((a + n : Nat) : Int)))) :=
        fun f1 f2 => ⟨(⟨#[]⟩ : ByteArray), 0, Ev.step (f := fun _ => some _) f1 (Ev.now _), .inl ⟨rfl, (0, (⟨#[]⟩ : ByteArray), 0, 0, -1), by decide, Ev.step (f := fun _ => some _) f2 (Ev.now _)⟩⟩
      have on : ∀ (x : Int) (w : Nat), 1 ≤ w → w ≤ d → w ≤ 2 → (∀ k, impl_lexString.l0 (k + 1) (rest s a) out (j : Int) = impl_lexString.l0 k (rest s a) (out ++ [x]) ((j + w : Nat) : Int)) → (∀ k, spec_l3str.l0 (k + 1) s (a : Int) out ((a + j : Nat) : Int) = spec_l3str.l0 k s (a : Int) (out ++ [x]) ((a + (j + w) : Nat) : Int)) →
          ∃ (tx : ByteArray) (n : Nat), Ev (fun k => impl_lexString.l0 k (rest s a) out (j : Int)) (tx, (n : Int)) ∧ ((n = 0 ∧ ∃ R : Int × ByteArray × Int × Int × Int, R.2.2.2.2 < 0 ∧ Ev (fun k => spec_l3str.l0 k s (a : Int) out ((a + j : Nat) : Int)) R) ∨ (0 < n ∧ a + n ≤ s.size ∧ Ev (fun k => spec_l3str.l0 k s (a : Int) out ((a + j : Nat) : Int)) (2, tx, 0, (a : Int), ((a + n : Nat) : Int)))) := by
        intro x w w1 w2 w3 f1 f2
        obtain ⟨tx, n, e1, e2⟩ := ih (d - w) (j + w) (out ++ [x]) (by omega) (by omega) (by rw [List.length_append]; simp; omega)
        refine ⟨tx, n, Ev.step f1 e1, ?_⟩
        rcases e2 with ⟨z, R, hR, e2⟩ | ⟨z1, z2, e2⟩
        · exact .inl ⟨z, R, hR, Ev.step f2 e2⟩
        · exact .inr ⟨z1, z2, Ev.step f2 e2⟩
      by_cases c1 : bt s ((a + j : Nat) : Int) = 34
      · refine ⟨strOfNums out, j + 1, Ev.step (f := fun _ => some _) (fun k => ?_) (Ev.now _), .inr ⟨by omega, by omega, Ev.step (f := fun _ => some _) (fun k => ?_) (Ev.now _)⟩⟩
        · simp only [impl_lexString.l0]
          rw [if_pos (by omega), if_pos (by omega), hb, if_pos c1, wrap_nat1 j (by omega)]
        · simp only [spec_l3str.l0]
          rw [if_pos (by omega), if_pos (by omega), if_pos c1, wrap_nat1 _ (by omega)]
          rfl
      · by_cases c2 : bt s ((a + j : Nat) : Int) = 10
        · refine fail (fun k => ?_) (fun k => ?_)
          · simp only [impl_lexString.l0]
            rw [if_pos (by omega), if_pos (by omega), hb, if_neg c1, if_pos c2]
          · simp only [spec_l3str.l0]
            rw [if_pos (by omega), if_pos (by omega), if_neg c1, if_pos c2]
        · by_cases c3 : bt s ((a + j : Nat) : Int) = 92
          · by_cases hj2 : a + j + 1 < s.size
            · have hb2 := rest_bt s a (j + 1) (by omega)
              rw [← Nat.add_assoc] at hb2
              have ei := esc_index (bt s ((a + j + 1 : Nat) : Int)) (bt_range s _).1 (bt_range s _).2
              have iopen : ∀ k, impl_lexString.l0 (k + 1) (rest s a) out (j : Int) = (if Lib.indexByte [110, 116, 34, 92] (bt s ((a + j + 1 : Nat) : Int)).toNat.toUInt8 < 0 then some ((⟨#[]⟩ : ByteArray), 0) else if 0 ≤ Lib.indexByte [110, 116, 34, 92] (bt s ((a + j + 1 : Nat) : Int)).toNat.toUInt8 then (if Lib.indexByte [110, 116, 34, 92] (bt s ((a + j + 1 : Nat) : Int)).toNat.toUInt8 < 4 then (if out.length < 140737488355328 then impl_lexString.l0 k (rest s a) (out ++ [bt (⟨#[10, 9, 34, 92]⟩ : ByteArray) (Lib.indexByte [110, 116, 34, 92] (bt s ((a + j + 1 : Nat) : Int)).toNat.toUInt8)]) ((j + 2 : Nat) : Int) else none) else none) else none) := by
                intro k
                simp only [impl_lexString.l0]
                unfold strings_IndexByte.f
                rw [if_pos (by omega), if_pos (by omega), hb, if_neg c1, if_neg c2, if_pos c3, wrap_nat1 j (by omega), if_neg (by omega), if_pos (by omega), if_pos (by omega), hb2, Option.bind_some, wrap_nat1 (j + 1) (by omega)]
              have sopen : ∀ k, spec_l3str.l0 (k + 1) s (a : Int) out ((a + j : Nat) : Int) = (if bt s ((a + j + 1 : Nat) : Int) = 110 then (if out.length < 140737488355328 then spec_l3str.l0 k s (a : Int) (out ++ [10]) ((a + (j + 2) : Nat) : Int) else none) else if bt s ((a + j + 1 : Nat) : Int) = 116 then (if out.length < 140737488355328 then spec_l3str.l0 k s (a : Int) (out ++ [9]) ((a + (j + 2) : Nat) : Int) else none) else if bt s ((a + j + 1 : Nat) : Int) = 34 then (if out.length < 140737488355328 then spec_l3str.l0 k s (a : Int) (out ++ [bt s ((a + j + 1 : Nat) : Int)]) ((a + (j + 2) : Nat) : Int) else none) else if bt s ((a + j + 1 : Nat) : Int) = 92 then (if out.length < 140737488355328 then spec_l3str.l0 k s (a : Int) (out ++ [bt s ((a + j + 1 : Nat) : Int)]) ((a + (j + 2) : Nat) : Int) else none) else some (0, (⟨#[]⟩ : ByteArray), 0, 0, -1)) := by
                intro k
                simp only [spec_l3str.l0]
                rw [if_pos (by omega), if_pos (by omega), if_neg c1, if_neg c2, if_pos c3, wrap_nat1 _ (by omega), if_neg (by omega), if_pos (by omega), if_pos (by omega), wrap_nat1 _ (by omega)]
                rfl
              have hl : out.length < 140737488355328 := by omega
              generalize hcc : bt s ((a + j + 1 : Nat) : Int) = cc at ei iopen sopen
              by_cases g1 : cc = 110
              · rw [if_pos g1] at ei
                refine on 10 2 (by omega) (by omega) (by omega) (fun k => ?_) (fun k => ?_)
                · rw [iopen, ei, if_neg (by omega), if_pos (by omega), if_pos (by omega), if_pos hl]
                  rfl
                · rw [sopen, if_pos g1, if_pos hl]
              · rw [if_neg g1] at ei
                by_cases g2 : cc = 116
                · rw [if_pos g2] at ei
                  refine on 9 2 (by omega) (by omega) (by omega) (fun k => ?_) (fun k => ?_)
                  · rw [iopen, ei, if_neg (by omega), if_pos (by omega), if_pos (by omega), if_pos hl]
                    rfl
                  · rw [sopen, if_neg g1, if_pos g2, if_pos hl]
                · rw [if_neg g2] at ei
                  by_cases g3 : cc = 34
                  · rw [if_pos g3] at ei
                    refine on 34 2 (by omega) (by omega) (by omega) (fun k => ?_) (fun k => ?_)
                    · rw [iopen, ei, if_neg (by omega), if_pos (by omega), if_pos (by omega), if_pos hl]
                      rfl
                    · rw [sopen, if_neg g1, if_neg g2, if_pos g3, if_pos hl, g3]
                  · rw [if_neg g3] at ei
                    by_cases g4 : cc = 92
                    · rw [if_pos g4] at ei
                      refine on 92 2 (by omega) (by omega) (by omega) (fun k => ?_) (fun k => ?_)
                      · rw [iopen, ei, if_neg (by omega), if_pos (by omega), if_pos (by omega), if_pos hl]
                        rfl
                      · rw [sopen, if_neg g1, if_neg g2, if_neg g3, if_pos g4, if_pos hl, g4]
                    · rw [if_neg g4] at ei
                      refine fail (fun k => ?_) (fun k => ?_)
                      · rw [iopen, ei, if_pos (by omega)]
                      · rw [sopen, if_neg g1, if_neg g2, if_neg g3, if_neg g4]
            · refine fail (fun k => ?_) (fun k => ?_)
              · simp only [impl_lexString.l0]
                rw [if_pos (by omega), if_pos (by omega), hb, if_neg c1, if_neg c2, if_pos c3, wrap_nat1 j (by omega), if_pos (by omega)]
              · simp only [spec_l3str.l0]
                rw [if_pos (by omega), if_pos (by omega), if_neg c1, if_neg c2, if_pos c3, wrap_nat1 _ (by omega), if_pos (by omega)]
          · refine on (bt s ((a + j : Nat) : Int)) 1 (by omega) (by omega) (by omega) (fun k => ?_) (fun k => ?_)
            · simp only [impl_lexString.l0]
              rw [if_pos (by omega), if_pos (by omega), hb, if_neg c1, if_neg c2, if_neg c3, if_pos (by omega), wrap_nat1 j (by omega)]
            · simp only [spec_l3str.l0]
              rw [if_pos (by omega), if_pos (by omega), if_neg c1, if_neg c2, if_neg c3, if_pos (by omega), wrap_nat1 _ (by omega)]
              rfl
    · refine ⟨(⟨#[]⟩ : ByteArray), 0, Ev.step (f := fun _ => some _) (fun k => ?_) (Ev.now _), .inl ⟨rfl, (0, (⟨#[]⟩ : ByteArray), 0, 0, -1), by decide, Ev.step (f := fun _ => some _) (fun k => ?_) (Ev.now _)⟩⟩
      · simp only [impl_lexString.l0]
        rw [if_neg (by omega)]
        rfl
      · simp only [spec_l3str.l0]
        rw [if_neg (by omega)]
theorem str_same (hc : bt s (a : Int) = 34) (q0 : Int) (q1 : ByteArray) (q2 q3 : Int) : Same s a (fun k => impl_lexOne.f k (rest s a) q0 q1 q2 q3) (fun k => spec_l3str.f k s (a : Int)) := by
  have hz := rest_size s a
  have h0 : bt (rest s a) 0 = bt s (a : Int) := rest_bt s a 0 (by omega)
  obtain ⟨tx, n, e1, e2⟩ := str_loop hs a ha (s.size - (a + 1)) (s.size - (a + 1)) 1 [] (Nat.le_refl _) (by omega) (by simp)
  refine ⟨2, tx, 0, n, ev_use1 e1 (fun k g => ?_), ?_⟩
  · unfold impl_lexOne.f
    rw [if_pos (by omega), h0, hc, impl_isDigit_eq, Option.bind_some, if_neg (by decide), if_pos rfl]
    unfold impl_lexString.f
    rw [show impl_lexString.l0 k (rest s a) [] 1 = some (tx, (n : Int)) from g, Option.bind_some]
  · have f : ∀ k, spec_l3str.f k s (a : Int) = spec_l3str.l0 k s (a : Int) [] ((a + 1 : Nat) : Int) := fun k => by
      unfold spec_l3str.f
      rw [wrap_nat1 a (by omega)]
    rcases e2 with ⟨z, R, hR, e2⟩ | ⟨z1, z2, e2⟩
    · exact .inl ⟨z, R, hR, Ev.congr f e2⟩
    · exact .inr ⟨z1, z2, Ev.congr f e2⟩
theorem re_loop : ∀ (m d j : Nat), d ≤ m → a + j + d = s.size → 1 ≤ j →
    ∃ (tx : ByteArray) (n : Nat), Ev (fun k => impl_lexRe.l0 k (rest s a) (j : Int)) (tx, (n : Int)) ∧ ((n = 0 ∧ ∃ R : Int × ByteArray × Int × Int × Int, R.2.2.2.2 < 0 ∧ Ev (fun k => spec_l3re.l0 k s (a : Int) ((a + j : Nat) : Int)) R) ∨ (0 < n ∧ a + n ≤ s.size ∧ Ev (fun k => spec_l3re.l0 k s (a : Int) ((a + j : Nat) : Int)) (3, tx, 0, (a : Int), ((a + n : Nat) : Int)))) := by
  have hz := rest_size s a
  have none_ : ∀ j : Nat, s.size ≤ a + j → ∃ (tx : ByteArray) (n : Nat), Ev (fun k => impl_lexRe.l0 k (rest s a) (j : Int)) (tx, (n : Int)) ∧ ((n = 0 ∧ ∃ R : Int × ByteArray × Int × Int × Int, R.2.2.2.2 < 0 ∧ Ev (fun k => spec_l3re.l0 k s (a : Int) ((a + j : Nat) : Int)) R) ∨ (0 < n ∧ a + n ≤ s.size ∧ Ev (fun k => spec_l3re.l0 k s (a : Int) ((a + j : Nat) : Int)) (3, tx, 0, (a : Int), ((a + n : Nat) : Int)))) := by
    intro j hj
    refine ⟨(⟨#[]⟩ : ByteArray), 0, Ev.step (f := fun _ => some _) (fun k => ?_) (Ev.now _), .inl ⟨rfl, (0, (⟨#[]⟩ : ByteArray), 0, 0, -1), by decide, Ev.step (f := fun _ => some _) (fun k => ?_) (Ev.now _)⟩⟩
    · simp only [impl_lexRe.l0]
      rw [if_neg (by omega)]
      rfl
    · simp only [spec_l3re.l0]
      rw [if_neg (by omega)]
  intro m
  induction m with
  | zero =>
    intro d j hd h hj1
    exact none_ j (by omega)
  | succ m ih =>
    intro d j hd h hj1
    by_cases hj : a + j < s.size
    · have hb := rest_bt s a j hj
      have fail : (∀ k, impl_lexRe.l0 (k + 1) (rest s a) (j : Int) = some ((⟨#[]⟩ : ByteArray), 0)) → (∀ k, spec_l3re.l0 (k + 1) s (a : Int) ((a + j : Nat) : Int) = some (0, (⟨#[]⟩ : ByteArray), 0, 0, -1)) →
          ∃ (tx : ByteArray) (n : Nat), Ev (fun k => impl_lexRe.l0 k (rest s a) (j : Int)) (tx, (n : Int)) ∧ ((n = 0 ∧ ∃ R : Int × ByteArray × Int × Int × Int, R.2.2.2.2 < 0 ∧ Ev (fun k => spec_l3re.l0 k s (a : Int) ((a + j : Nat) : Int)) R) ∨ (0 < n ∧ a + n ≤ s.size ∧ Ev (fun k => spec_l3re.l0 k s (a : Int) ((a + j : Nat) : Int)) (3, tx, 0, (a : Int), ((a + n : Nat) : Int)))) :=
        fun f1 f2 => ⟨(⟨#[]⟩ : ByteArray), 0, Ev.step (f := fun _ => some _) f1 (Ev.now _), .inl ⟨rfl, (0, (⟨#[]⟩ : ByteArray), 0, 0, -1), by decide, Ev.step (f := fun _ => some _) f2 (Ev.now _)⟩⟩
      have on : ∀ (w : Nat), 1 ≤ w → w ≤ d → (∀ k, impl_lexRe.l0 (k + 1) (rest s a) (j : Int) = impl_lexRe.l0 k (rest s a) ((j + w : Nat) : Int)) → (∀ k, spec_l3re.l0 (k + 1) s (a : Int) ((a + j : Nat) : Int) = spec_l3re.l0 k s (a : Int) ((a + (j + w) : Nat) : Int)) →
          ∃ (tx : ByteArray) (n : Nat), Ev (fun k => impl_lexRe.l0 k (rest s a) (j : Int)) (tx, (n : Int)) ∧ ((n = 0 ∧ ∃ R : Int × ByteArray × Int × Int × Int, R.2.2.2.2 < 0 ∧ Ev (fun k => spec_l3re.l0 k s (a : Int) ((a + j : Nat) : Int)) R) ∨ (0 < n ∧ a + n ≤ s.size ∧ Ev (fun k => spec_l3re.l0 k s (a : Int) ((a + j : Nat) : Int)) (3, tx, 0, (a : Int), ((a + n : Nat) : Int)))) := by
        intro w w1 w2 f1 f2
        obtain ⟨tx, n, e1, e2⟩ := ih (d - w) (j + w) (by omega) (by omega) (by omega)
        refine ⟨tx, n, Ev.step f1 e1, ?_⟩
        rcases e2 with ⟨z, R, hR, e2⟩ | ⟨z1, z2, e2⟩
        · exact .inl ⟨z, R, hR, Ev.step f2 e2⟩
        · exact .inr ⟨z1, z2, Ev.step f2 e2⟩
      by_cases c1 : bt s ((a + j : Nat) : Int) = 47
      · refine ⟨s.extract (a + 1) (a + j), j + 1, Ev.step (f := fun _ => some _) (fun k => ?_) (Ev.now _), .inr ⟨by omega, by omega, Ev.step (f := fun _ => some _) (fun k => ?_) (Ev.now _)⟩⟩
        · simp only [impl_lexRe.l0]
          rw [if_pos (by omega), if_pos (by omega), hb, if_pos c1, if_pos (by omega), if_pos (by omega), wrap_nat1 j (by omega), Int.toNat_natCast, rest_mid s a 1 j (by omega)]
        · simp only [spec_l3re.l0]
          rw [if_pos (by omega), if_pos (by omega), if_pos c1, wrap_nat1 a (by omega), if_pos (by omega), if_pos (by omega), if_pos (by omega), wrap_nat1 _ (by omega), Int.toNat_natCast, Int.toNat_natCast]
          rfl
      · by_cases c2 : bt s ((a + j : Nat) : Int) = 10
        · refine fail (fun k => ?_) (fun k => ?_)
          · simp only [impl_lexRe.l0]
            rw [if_pos (by omega), if_pos (by omega), hb, if_neg c1, if_pos c2]
          · simp only [spec_l3re.l0]
            rw [if_pos (by omega), if_pos (by omega), if_neg c1, if_neg (by omega), if_neg (by omega), if_pos c2]
        · by_cases c3 : bt s ((a + j : Nat) : Int) = 92
          · by_cases hj2 : a + j + 1 < s.size
            · have hb2 := rest_bt s a (j + 1) (by omega)
              rw [← Nat.add_assoc] at hb2
              by_cases c4 : bt s ((a + j + 1 : Nat) : Int) = 10
              · refine fail (fun k => ?_) (fun k => ?_)
                · simp only [impl_lexRe.l0]
                  rw [if_pos (by omega), if_pos (by omega), hb, if_neg c1, if_neg c2, if_pos c3, wrap_nat1 j (by omega), if_pos (by omega), if_pos (by omega), hb2, if_pos c4]
                · simp only [spec_l3re.l0]
                  rw [if_pos (by omega), if_pos (by omega), if_neg c1, if_pos c3, wrap_nat1 _ (by omega), if_neg (by omega), if_pos (by omega), if_pos (by omega), if_pos c4]
              · refine on 2 (by omega) (by omega) (fun k => ?_) (fun k => ?_)
                · simp only [impl_lexRe.l0]
                  rw [if_pos (by omega), if_pos (by omega), hb, if_neg c1, if_neg c2, if_pos c3, wrap_nat1 j (by omega), if_pos (by omega), if_pos (by omega), hb2, if_neg c4, wrap_nat1 (j + 1) (by omega)]
                · simp only [spec_l3re.l0]
                  rw [if_pos (by omega), if_pos (by omega), if_neg c1, if_pos c3, wrap_nat1 _ (by omega), if_neg (by omega), if_pos (by omega), if_pos (by omega), if_neg c4, wrap_nat1 _ (by omega)]
                  rfl
            · refine ⟨(⟨#[]⟩ : ByteArray), 0, Ev.step (f := fun k => impl_lexRe.l0 k (rest s a) ((j + 2 : Nat) : Int)) (fun k => ?_) (Ev.step (f := fun _ => some _) (fun k => ?_) (Ev.now _)), .inl ⟨rfl, (0, (⟨#[]⟩ : ByteArray), 0, 0, -1), by decide, Ev.step (f := fun _ => some _) (fun k => ?_) (Ev.now _)⟩⟩
              · simp only [impl_lexRe.l0]
                rw [if_pos (by omega), if_pos (by omega), hb, if_neg c1, if_neg c2, if_pos c3, wrap_nat1 j (by omega), if_neg (by omega), wrap_nat1 (j + 1) (by omega)]
              · simp only [impl_lexRe.l0]
                rw [if_neg (by omega)]
                rfl
              · simp only [spec_l3re.l0]
                rw [if_pos (by omega), if_pos (by omega), if_neg c1, if_pos c3, wrap_nat1 _ (by omega), if_pos (by omega)]
          · refine on 1 (by omega) (by omega) (fun k => ?_) (fun k => ?_)
            · simp only [impl_lexRe.l0]
              rw [if_pos (by omega), if_pos (by omega), hb, if_neg c1, if_neg c2, if_neg c3, wrap_nat1 j (by omega)]
            · simp only [spec_l3re.l0]
              rw [if_pos (by omega), if_pos (by omega), if_neg c1, if_neg c3, if_neg (by omega), if_neg c2, wrap_nat1 _ (by omega)]
              rfl
    · exact none_ j (by omega)
end
end Go.Proofs.YtmddcohelcciaacDoor.PFnExactLex
