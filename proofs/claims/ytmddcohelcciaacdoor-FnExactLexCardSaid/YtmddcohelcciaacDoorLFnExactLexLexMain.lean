/- Lex: the whole of a text. -/
import Derived.Test.YtmddcohelcciaacDoorPFnExactLexx
import Derived.Test.YtmddcohelcciaacDoorLFnExactLexReadDec
import Derived.Test.YtmddcohelcciaacDoorLFnExactLexLexChars
import Derived.Test.YtmddcohelcciaacDoorLFnExactLexLexToks
import Derived.Test.YtmddcohelcciaacDoorLFnExactLexLexText
import Derived.Test.YtmddcohelcciaacDoorLFnExactLexIsWord
import Derived.Test.YtmddcohelcciaacDoorLFnExactLexLexOne
import Derived.Test.YtmddcohelcciaacDoorXLem
namespace Go.Proofs.YtmddcohelcciaacDoor.PFnExactLex
set_option linter.unusedVariables false
set_option linter.unusedSimpArgs false
open Go.RowKit Go.Proofs.YtmddcohelcciaacDoorW.PrintWords Go.Proofs.YtmddcohelcciaacDoorW.PrintLast Go.Proofs.YtmddcohelcciaacDoorW.PrintMore Go.Proofs.YtmddcohelcciaacDoor.XL
/-- What the model does with a token. -/
def after (k : Nat) (s : ByteArray) (out : List S30) (a : Int) (R : Int × ByteArray × Int × Int × Int) : Option (List S30 × Int) := spec_Lex.j2 k s out a R.2.2.2.2 R.1 R.2.1 R.2.2.1 R.2.2.2.1
section
variable {s : ByteArray} (hs : s.size ≤ 4000)
include hs
/-- Which of the model's five is asked, and what follows. -/
theorem spec_pick (a : Nat) (ha : a < s.size) (out : List S30) (ho : out.length ≤ 4000) (q0 : Int) (q1 : ByteArray) (q2 q3 : Int) (hq : Last out q0 q1) :
    ∃ J : Nat → Option (Int × ByteArray × Int × Int × Int), Same s a (fun k => impl_lexOne.f k (rest s a) q0 q1 q2 q3) J ∧
      ∀ v, Ev (fun k => (J k).bind fun R => after k s out (a : Int) R) v → Ev (fun k => spec_Lex.l0 k s out (a : Int)) v := by
  cases hD : isD (bt s (a : Int)) with
  | true =>
    refine ⟨_, num_same hs a ha hD q0 q1 q2 q3, fun v e => Ev.step (fun k => ?_) e⟩
    simp only [spec_Lex.l0]
    rw [if_pos (by omega), if_pos (by omega), spec_l1digit_eq, hD, Option.bind_some, if_pos (rfl : true = true)]
    rfl
  | false =>
    by_cases h34 : bt s (a : Int) = 34
    · refine ⟨_, str_same hs a ha h34 q0 q1 q2 q3, fun v e => Ev.step (fun k => ?_) e⟩
      simp only [spec_Lex.l0]
      rw [if_pos (by omega), if_pos (by omega), spec_l1digit_eq, hD, Option.bind_some, if_neg (by simp), if_pos h34]
      rfl
    · cases hL : isL (bt s (a : Int)) with
      | true =>
        refine ⟨_, name_same hs a ha q0 q1 q2 q3 hL, fun v e => Ev.step (fun k => ?_) e⟩
        simp only [spec_Lex.l0]
        rw [if_pos (by omega), if_pos (by omega), spec_l1digit_eq, hD, Option.bind_some, if_neg (by simp), if_neg h34, spec_l3letter_eq, hL, Option.bind_some, if_pos (rfl : true = true)]
        rfl
      | false =>
        by_cases h47 : bt s (a : Int) = 47
        · have hop := operand_eq out q0 q1 ho hq
          cases he : eo q0 q1 with
          | false =>
            refine ⟨_, re_same hs a ha q0 q1 q2 q3 h47 he, fun v e => ?_⟩
            have j1 : Ev (fun k => spec_Lex.j1 k s out (a : Int) true) v := by
              refine Ev.step (fun k => ?_) e
              simp only [spec_Lex.j1]
              rw [if_pos trivial]
              rfl
            refine Ev.step (fun k => ?_) j1
            simp only [spec_Lex.l0]
            rw [if_pos (by omega), if_pos (by omega), spec_l1digit_eq, hD, Option.bind_some, if_neg (by simp), if_neg h34, spec_l3letter_eq, hL, Option.bind_some, if_neg (by simp), if_pos h47, hop, he, Option.bind_some]
            rfl
          | true =>
            refine ⟨_, sign_same hs a ha q0 q1 q2 q3 hD h34 hL (fun _ => he), fun v e => ?_⟩
            have j1 : Ev (fun k => spec_Lex.j1 k s out (a : Int) false) v := by
              refine Ev.step (fun k => ?_) e
              simp only [spec_Lex.j1]
              rw [if_neg (by simp)]
              rfl
            refine Ev.step (fun k => ?_) j1
            simp only [spec_Lex.l0]
            rw [if_pos (by omega), if_pos (by omega), spec_l1digit_eq, hD, Option.bind_some, if_neg (by simp), if_neg h34, spec_l3letter_eq, hL, Option.bind_some, if_neg (by simp), if_pos h47, hop, he, Option.bind_some]
            rfl
        · refine ⟨_, sign_same hs a ha q0 q1 q2 q3 hD h34 hL (fun z => absurd z h47), fun v e => ?_⟩
          have j1 : Ev (fun k => spec_Lex.j1 k s out (a : Int) false) v := by
            refine Ev.step (fun k => ?_) e
            simp only [spec_Lex.j1]
            rw [if_neg (by simp)]
            rfl
          refine Ev.step (fun k => ?_) j1
          simp only [spec_Lex.l0]
          rw [if_pos (by omega), if_pos (by omega), spec_l1digit_eq, hD, Option.bind_some, if_neg (by simp), if_neg h34, spec_l3letter_eq, hL, Option.bind_some, if_neg (by simp), if_neg h47]
theorem lex_from : ∀ (d i : Nat) (out : List S30) (q0 : Int) (q1 : ByteArray) (q2 q3 : Int), i + d = s.size → (i < s.size → isS (bt s (i : Int)) = false ∧ bt s (i : Int) ≠ 35) → Last out q0 q1 → out.length ≤ i →
    ∃ (L : List S30) (r : Int), Ev (fun k => impl_Lex.l0 k s out (i : Int) q0 q1 q2 q3) (L, r) ∧ Ev (fun k => spec_Lex.l0 k s out (i : Int)) (L, r) ∧ L.length ≤ 4000 := by
  intro d
  induction d using Nat.strongRecOn with
  | _ d ih =>
    intro i out q0 q1 q2 q3 h hb hq ho
    by_cases hi : i < s.size
    · obtain ⟨b1, b2⟩ := hb hi
      obtain ⟨J, ⟨kd, tx, nu, n, e1, e2⟩, e3⟩ := spec_pick hs i hi out (by omega) q0 q1 q2 q3 hq
      have iopen : ∀ k, impl_Lex.l0 (k + 1) s out (i : Int) q0 q1 q2 q3 = ((impl_lexOne.f k (rest s i) q0 q1 q2 q3).bind fun bt272 => (if bt272.2.2.2.2 = 0 then (some (([] : List S30), (i : Int))) else (if out.length < 3518437208883 then (impl_Lex.l0 k s (out ++ [(⟨bt272.1, bt272.2.1, bt272.2.2.1, (i : Int)⟩ : S30)]) (wrap64 ((i : Int) + bt272.2.2.2.2)) bt272.1 bt272.2.1 bt272.2.2.1 (i : Int)) else (none)))) := by
        intro k
        simp only [impl_Lex.l0]
        rw [if_pos (by omega), if_pos (by omega), impl_isSpace_eq, b1, Option.bind_some, if_neg (by simp), if_neg b2, if_pos (by omega), Int.toNat_natCast]
        rfl
      rcases e2 with ⟨hn, R, hR, e2⟩ | ⟨n0, n1, e2⟩
      · subst hn
        have aft : Ev (fun k => after k s out (i : Int) R) (([] : List S30), (i : Int)) := by
          refine Ev.step (f := fun _ => some _) (fun k => ?_) (Ev.now _)
          unfold after
          simp only [spec_Lex.j2]
          rw [if_pos hR]
        refine ⟨[], (i : Int), ev_use e1 (Ev.now ()) (fun k g _ => ?_), e3 _ (ev_use0 e2 aft (fun k g g2 => ?_)), by simp⟩
        · rw [iopen, g, Option.bind_some]
          exact if_pos rfl
        · rw [g, Option.bind_some]
          exact g2
      · obtain ⟨j, j1, j2, j3, j4, j5⟩ := blank_same hs (s.size - (i + n)) (i + n) (by omega)
        have hlast : Last (out ++ [(⟨kd, tx, nu, (i : Int)⟩ : S30)]) kd tx := ⟨fun z => by simp at z, fun z => by simp⟩
        obtain ⟨L, r, f1, f2, f3⟩ := ih (s.size - j) (by omega) j (out ++ [(⟨kd, tx, nu, (i : Int)⟩ : S30)]) kd tx nu (i : Int) (by omega) j3 hlast (by rw [List.length_append]; simp; omega)
        have aft : Ev (fun k => after k s out (i : Int) (kd, tx, nu, (i : Int), ((i + n : Nat) : Int))) (L, r) := by
          refine ev_use j4 f2 (fun k g1 g2 => ?_)
          unfold after
          simp only [spec_Lex.j2]
          rw [if_neg (by omega), if_pos (by omega)]
          unfold spec_l3blank.f
          rw [g1, Option.bind_some]
          exact g2
        refine ⟨L, r, ev_use e1 (j5 _ kd tx nu (i : Int) _ f1) (fun k g1 g2 => ?_), e3 _ (ev_use0 e2 aft (fun k g1 g2 => ?_)), f3⟩
        · rw [iopen, g1, Option.bind_some]
          show (if (n : Int) = 0 then _ else _) = _
          rw [if_neg (by omega), if_pos (by omega), wrap_nat i n (by omega)]
          exact g2
        · rw [g1, Option.bind_some]
          exact g2
    · refine ⟨out, -1, Ev.step (f := fun _ => some _) (fun k => ?_) (Ev.now _), Ev.step (f := fun _ => some _) (fun k => ?_) (Ev.now _), by omega⟩
      · simp only [impl_Lex.l0]
        rw [if_neg (by omega)]
      · simp only [spec_Lex.l0]
        rw [if_neg (by omega)]
end
theorem lex_same (s : ByteArray) : ∃ (L : List S30) (r : Int), Ev (fun k => impl_Lex.f k s) (L, r) ∧ Ev (fun k => spec_Lex.f k s) (L, r) ∧ L.length ≤ 4000 := by
  by_cases hs : s.size ≤ 4000
  · obtain ⟨j, j1, j2, j3, j4, j5⟩ := blank_same hs s.size 0 (by omega)
    obtain ⟨L, r, f1, f2, f3⟩ := lex_from hs (s.size - j) j [] 0 (⟨#[]⟩ : ByteArray) 0 0 (by omega) j3 ⟨fun _ => rfl, fun z => absurd rfl z⟩ (by simp)
    refine ⟨L, r, Ev.congr (fun k => ?_) (j5 _ _ _ _ _ _ f1), ev_use0 j4 f2 (fun k g1 g2 => ?_), f3⟩
    · unfold impl_Lex.f
      rw [if_neg (by omega)]
      rfl
    · unfold spec_Lex.f spec_l3blank.f
      rw [if_neg (by omega), show spec_l3blank.l0 k s 0 = some (j : Int) from g1, Option.bind_some]
      exact g2
  · refine ⟨[], 0, ⟨0, fun k _ => ?_⟩, ⟨0, fun k _ => ?_⟩, by simp⟩
    · show impl_Lex.f k s = _
      unfold impl_Lex.f
      rw [if_pos (by omega)]
    · show spec_Lex.f k s = _
      unfold spec_Lex.f
      rw [if_pos (by omega)]
end Go.Proofs.YtmddcohelcciaacDoor.PFnExactLex
