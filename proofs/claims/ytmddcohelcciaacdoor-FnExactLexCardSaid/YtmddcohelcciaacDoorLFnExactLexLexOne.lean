/- Lex: one token, by its first byte. -/
import Derived.Test.YtmddcohelcciaacDoorPFnExactLexx
import Derived.Test.YtmddcohelcciaacDoorLFnExactLexReadDec
import Derived.Test.YtmddcohelcciaacDoorLFnExactLexLexChars
import Derived.Test.YtmddcohelcciaacDoorLFnExactLexLexToks
import Derived.Test.YtmddcohelcciaacDoorLFnExactLexLexText
import Derived.Test.YtmddcohelcciaacDoorLFnExactLexIsWord
import Derived.Test.YtmddcohelcciaacDoorXLem
namespace Go.Proofs.YtmddcohelcciaacDoor.PFnExactLex
set_option linter.unusedVariables false
set_option linter.unusedSimpArgs false
open Go.RowKit Go.Proofs.YtmddcohelcciaacDoorW.PrintWords Go.Proofs.YtmddcohelcciaacDoorW.PrintLast Go.Proofs.YtmddcohelcciaacDoorW.PrintMore Go.Proofs.YtmddcohelcciaacDoor.XL
/-- Whether a stroke behind a token divides. -/
def eo (a : Int) (b : ByteArray) : Bool := (impl_endsOperand.f a b 0 0).getD false
theorem ends_eq (a : Int) (b : ByteArray) (c d : Int) : impl_endsOperand.f a b c d = some (eo a b) := by
  have : ∃ v, impl_endsOperand.f a b c d = some v := by
    unfold impl_endsOperand.f
    repeat' split
    all_goals exact ⟨_, rfl⟩
  obtain ⟨v, hv⟩ := this
  have h2 : impl_endsOperand.f a b 0 0 = some v := hv
  unfold eo
  rw [hv, h2]
  rfl
def Last (out : List S30) (a : Int) (b : ByteArray) : Prop := (out = [] → eo a b = false) ∧ ∀ h : out ≠ [], eo a b = eo (out.getLast h).f0 (out.getLast h).f1
theorem operand_eq (out : List S30) (a : Int) (b : ByteArray) (hl : out.length ≤ 4000) (h : Last out a b) : spec_l3operand.f out = some (eo a b) := by
  by_cases he : out = []
  · rw [h.1 he]
    subst he
    rfl
  · have hp : 0 < out.length := List.length_pos_iff.2 he
    have hr : rd_T30 out (wrap64 ((out.length : Int) - 1)) = out.getLast he := by
      rw [wrap_id (by omega) (by omega), show ((out.length : Int) - 1) = ((out.length - 1 : Nat) : Int) by omega]
      unfold rd_T30
      rw [Int.toNat_natCast, List.getD_eq_getElem?_getD, List.getElem?_eq_getElem (by omega), List.getLast_eq_getElem]
      rfl
    rw [h.2 he, ← ends_eq (out.getLast he).f0 (out.getLast he).f1 0 0]
    unfold spec_l3operand.f
    rw [if_neg (by omega), hr, if_pos (by rw [wrap_id (by omega) (by omega)]; omega), if_pos (by rw [wrap_id (by omega) (by omega)]; omega)]
    rfl
def signW : List ByteArray := (spec_l3signs.f).getD []
theorem signs_eq : spec_l3signs.f = some signW := rfl
theorem split_eq : strings_Split.f (⟨#[38, 38, 32, 124, 124, 32, 61, 61, 32, 33, 61, 32, 33, 126, 32, 60, 61, 32, 43, 61, 32, 123, 32, 125, 32, 40, 32, 41, 32, 91, 32, 93, 32, 59, 32, 44, 32, 61, 32, 33, 32, 60, 32, 43, 32, 45, 32, 42, 32, 47, 32, 37, 32, 126, 32, 63, 32, 58, 32, 36]⟩ : ByteArray) (⟨#[32]⟩ : ByteArray) = some signW := by decide +kernel
theorem sign_size : ∀ x ∈ signW, 1 ≤ x.size ∧ x.size ≤ 2 := by decide +kernel
theorem sign_len : signW.length = 27 := by decide +kernel
theorem rd_sign (i : Nat) (h : i < signW.length) : rdOf ByteArray.empty signW (i : Int) = signW[i] := by
  unfold rdOf
  rw [Int.toNat_natCast, List.getD_eq_getElem?_getD, List.getElem?_eq_getElem h]
  rfl
section
variable {s : ByteArray} (hs : s.size ≤ 4000) (a : Nat) (ha : a < s.size) (q0 : Int) (q1 : ByteArray) (q2 q3 : Int)
include hs ha
theorem one_j1 (hD : isD (bt s (a : Int)) = false) (h34 : bt s (a : Int) ≠ 34) (b : Bool) (h1 : bt s (a : Int) = 47 → b = !(eo q0 q1)) (h2 : bt s (a : Int) ≠ 47 → b = false) (v : Int × ByteArray × Int × Int × Int)
    (e : Ev (fun k => impl_lexOne.j1 k (rest s a) (bt s (a : Int)) b) v) : Ev (fun k => impl_lexOne.f k (rest s a) q0 q1 q2 q3) v := by
  have _hs := hs
  have hz := rest_size s a
  have h0 : bt (rest s a) 0 = bt s (a : Int) := rest_bt s a 0 (by omega)
  refine Ev.congr (fun k => ?_) e
  unfold impl_lexOne.f
  rw [if_pos (by omega), h0, impl_isDigit_eq, hD, Option.bind_some, if_neg (by simp), if_neg h34]
  by_cases c : bt s (a : Int) = 47
  · rw [if_pos c, ends_eq, Option.bind_some, h1 c]
  · rw [if_neg c, h2 c]
theorem re_same (hc : bt s (a : Int) = 47) (he : eo q0 q1 = false) : Same s a (fun k => impl_lexOne.f k (rest s a) q0 q1 q2 q3) (fun k => spec_l3re.f k s (a : Int)) := by
  obtain ⟨tx, n, e1, e2⟩ := re_loop hs a ha (s.size - (a + 1)) (s.size - (a + 1)) 1 (Nat.le_refl _) (by omega) (by omega)
  refine ⟨3, tx, 0, n, one_j1 hs a ha q0 q1 q2 q3 (by rw [hc]; rfl) (by omega) true (fun _ => by rw [he]; rfl) (fun z => absurd hc z) _ ?_, ?_⟩
  · refine ev_use e1 (Ev.now ()) (fun k g _ => ?_)
    simp only [impl_lexOne.j1]
    rw [if_pos trivial]
    unfold impl_lexRe.f
    rw [show impl_lexRe.l0 k (rest s a) 1 = some (tx, (n : Int)) from g, Option.bind_some]
  · have f : ∀ k, spec_l3re.f k s (a : Int) = spec_l3re.l0 k s (a : Int) ((a + 1 : Nat) : Int) := fun k => by
      unfold spec_l3re.f
      rw [wrap_nat1 a (by omega)]
    rcases e2 with ⟨z, R, hR, e2⟩ | ⟨z1, z2, e2⟩
    · exact .inl ⟨z, R, hR, Ev.congr f e2⟩
    · exact .inr ⟨z1, z2, Ev.congr f e2⟩
theorem name_run : ∀ (d i : Nat) (v : Int × ByteArray × Int × Int × Int), i + d = s.size → Ev (fun k => spec_l3name.j1 k s (a : Int) ((i + scan isN s i : Nat) : Int)) v → Ev (fun k => spec_l3name.l0 k s (a : Int) (i : Int)) v := by
  have _ha := ha
  intro d
  induction d with
  | zero =>
    intro i v h e
    rw [scan_end isN s i (by omega)] at e
    refine Ev.step (fun k => ?_) e
    simp only [spec_l3name.l0]
    rw [if_neg (by omega)]
    rfl
  | succ d ih =>
    intro i v h e
    cases hp : isN (bt s (i : Int)) with
    | true =>
      rw [scan_yes (by omega) hp, show i + (scan isN s (i + 1) + 1) = i + 1 + scan isN s (i + 1) by omega] at e
      refine Ev.step (fun k => ?_) (ih (i + 1) v (by omega) e)
      simp only [spec_l3name.l0]
      rw [if_pos (by omega), if_pos (by omega), spec_l3inner_eq, hp, Option.bind_some, if_pos (rfl : true = true), wrap_nat1 i (by omega)]
    | false =>
      rw [scan_no hp] at e
      refine Ev.step (fun k => ?_) e
      simp only [spec_l3name.l0]
      rw [if_pos (by omega), if_pos (by omega), spec_l3inner_eq, hp, Option.bind_some, if_neg (by simp)]
      rfl
theorem name_same (hL : isL (bt s (a : Int)) = true) : Same s a (fun k => impl_lexOne.f k (rest s a) q0 q1 q2 q3) (fun k => spec_l3name.f k s (a : Int)) := by
  obtain ⟨n34, n47, nD⟩ := isL_not _ hL
  have hz := rest_size s a
  have hn := rest_scan isN s a (s.size - a) 0 (by omega)
  rw [Nat.add_zero] at hn
  have hle := scan_le' isN s a (by omega)
  have hpos : 1 ≤ scan isN s a := by
    rw [scan_yes ha (by unfold isN; rw [hL]; rfl)]
    omega
  have hrun := runN_ev (by omega : (rest s a).size ≤ 4000) (rest s a).size 0 0 (by omega)
  rw [Nat.zero_add, Nat.zero_add, hn] at hrun
  have hrun' : Ev (fun k => impl_run_isNamed.f k (rest s a) 0) ((scan isN s a : Nat) : Int) := Ev.congr (fun k => rfl) hrun
  have toF : ∀ v, Ev (fun k => spec_l3name.j1 k s (a : Int) ((a + scan isN s a : Nat) : Int)) v → Ev (fun k => spec_l3name.f k s (a : Int)) v := fun v e => Ev.congr (fun k => rfl) (name_run hs a ha (s.size - a) a v (by omega) e)
  have toO : ∀ v, Ev (fun k => impl_lexOne.j1 k (rest s a) (bt s (a : Int)) false) v → Ev (fun k => impl_lexOne.f k (rest s a) q0 q1 q2 q3) v := fun v e => one_j1 hs a ha q0 q1 q2 q3 nD n34 false (fun z => absurd z n47) (fun _ => rfl) v e
  by_cases h40 : 40 < scan isN s a
  · refine ⟨0, (⟨#[]⟩ : ByteArray), 0, 0, toO _ (ev_use hrun' (Ev.now ()) (fun k g _ => ?_)), .inl ⟨rfl, (0, (⟨#[]⟩ : ByteArray), 0, 0, -1), by decide, toF _ (Ev.step (f := fun _ => some _) (fun k => ?_) (Ev.now _))⟩⟩
    · simp only [impl_lexOne.j1]
      rw [if_neg (by simp), impl_isLetter_eq, hL, Option.bind_some, if_pos (rfl : true = true), g, Option.bind_some, if_pos (by rw [mn_eq]; omega), if_pos (by rw [mn_eq]; omega), if_pos (by omega)]
      rfl
    · simp only [spec_l3name.j1]
      rw [if_pos (by omega), if_pos (by omega), if_pos (by omega), wrap_id (by omega) (by omega), if_pos (by omega)]
  · have hm : mn ((scan isN s a : Nat) : Int) 40 = ((scan isN s a : Nat) : Int) := by rw [mn_eq]; omega
    obtain ⟨b, w1, w2⟩ := isWord_same (s.extract a (a + scan isN s a))
    have iopen : ∀ k (v : Int × ByteArray × Int × Int × Int), impl_run_isNamed.f k (rest s a) 0 = some ((scan isN s a : Nat) : Int) → impl_IsWord.f k (s.extract a (a + scan isN s a)) = some b →
        (if b = true then some (6, s.extract a (a + scan isN s a), 0, 0, ((scan isN s a : Nat) : Int)) else if a + scan isN s a < s.size then (if bt s ((a + scan isN s a : Nat) : Int) = 40 then some (5, s.extract a (a + scan isN s a), 0, 0, ((scan isN s a : Nat) : Int)) else some (4, s.extract a (a + scan isN s a), 0, 0, ((scan isN s a : Nat) : Int))) else some (4, s.extract a (a + scan isN s a), 0, 0, ((scan isN s a : Nat) : Int))) = some v → impl_lexOne.j1 (k + 1) (rest s a) (bt s (a : Int)) false = some v := by
      intro k v g1 g2 g3
      rw [← g3]
      simp only [impl_lexOne.j1]
      rw [if_neg (by simp), impl_isLetter_eq, hL, Option.bind_some, if_pos (rfl : true = true), g1, Option.bind_some, hm, if_pos (by omega), if_pos (by omega), if_neg (by omega), Int.toNat_natCast, rest_take s a _ (by omega), g2, Option.bind_some]
      cases b with
      | true => rw [if_pos rfl, if_pos rfl]
      | false =>
        rw [if_neg (by simp), if_neg (show ¬ (false = true) by simp)]
        by_cases c : a + scan isN s a < s.size
        · rw [if_pos (by omega), if_pos (by omega), if_pos c, rest_bt s a _ c]
        · rw [if_neg (by omega), if_neg c]
    have sopen : ∀ k (v : Int × ByteArray × Int × Int × Int), spec_IsWord.f k (s.extract a (a + scan isN s a)) = some b →
        (if b = true then some (6, s.extract a (a + scan isN s a), 0, (a : Int), ((a + scan isN s a : Nat) : Int)) else if a + scan isN s a < s.size then (if bt s ((a + scan isN s a : Nat) : Int) = 40 then some (5, s.extract a (a + scan isN s a), 0, (a : Int), ((a + scan isN s a : Nat) : Int)) else some (4, s.extract a (a + scan isN s a), 0, (a : Int), ((a + scan isN s a : Nat) : Int))) else some (4, s.extract a (a + scan isN s a), 0, (a : Int), ((a + scan isN s a : Nat) : Int))) = some v → spec_l3name.j1 (k + 1) s (a : Int) ((a + scan isN s a : Nat) : Int) = some v := by
      intro k v g2 g3
      rw [← g3]
      simp only [spec_l3name.j1]
      rw [if_pos (by omega), if_pos (by omega), if_pos (by omega), wrap_id (by omega) (by omega), if_neg (by omega), Int.toNat_natCast, Int.toNat_natCast, g2, Option.bind_some]
      cases b with
      | true => rw [if_pos rfl, if_pos rfl]
      | false =>
        rw [if_neg (by simp), if_neg (show ¬ (false = true) by simp)]
        by_cases c : a + scan isN s a < s.size
        · rw [if_pos (by omega), if_pos (by omega), if_pos c]
        · rw [if_neg (by omega), if_neg c]
    have fin : ∀ kd : Int, (∀ (x y : Int), (if b = true then some ((6 : Int), s.extract a (a + scan isN s a), (0 : Int), x, y) else if a + scan isN s a < s.size then (if bt s ((a + scan isN s a : Nat) : Int) = 40 then some (5, s.extract a (a + scan isN s a), 0, x, y) else some (4, s.extract a (a + scan isN s a), 0, x, y)) else some (4, s.extract a (a + scan isN s a), 0, x, y)) = some (kd, s.extract a (a + scan isN s a), 0, x, y)) →
        Same s a (fun k => impl_lexOne.f k (rest s a) q0 q1 q2 q3) (fun k => spec_l3name.f k s (a : Int)) := by
      intro kd hk
      refine ⟨kd, s.extract a (a + scan isN s a), 0, scan isN s a, toO _ (ev_use hrun' w2 (fun k g1 g2 => iopen k _ g1 g2 (hk _ _))), .inr ⟨by omega, by omega, toF _ (ev_use w1 (Ev.now ()) (fun k g _ => sopen k _ g (hk _ _)))⟩⟩
    cases b with
    | true => exact fin 6 (fun x y => by rw [if_pos rfl])
    | false =>
      by_cases c : a + scan isN s a < s.size
      · by_cases c2 : bt s ((a + scan isN s a : Nat) : Int) = 40
        · exact fin 5 (fun x y => by rw [if_neg (by simp), if_pos c, if_pos c2])
        · exact fin 4 (fun x y => by rw [if_neg (by simp), if_pos c, if_neg c2])
      · exact fin 4 (fun x y => by rw [if_neg (by simp), if_neg c])
theorem sign_loop : ∀ (d i : Nat), i + d = signW.length →
    ∃ (kd : Int) (tx : ByteArray) (n : Nat), Ev (fun k => impl_lexOne.l0 k (rest s a) signW (signW.length : Int) (i : Int)) (kd, tx, 0, 0, (n : Int)) ∧ ((n = 0 ∧ ∃ R : Int × ByteArray × Int × Int × Int, R.2.2.2.2 < 0 ∧ Ev (fun k => spec_l3sign.l0 k s (a : Int) signW (i : Int)) R) ∨ (0 < n ∧ a + n ≤ s.size ∧ Ev (fun k => spec_l3sign.l0 k s (a : Int) signW (i : Int)) (kd, tx, 0, (a : Int), ((a + n : Nat) : Int)))) := by
  have hz := rest_size s a
  have hl := sign_len
  intro d
  induction d with
  | zero =>
    intro i h
    refine ⟨0, (⟨#[]⟩ : ByteArray), 0, Ev.step (f := fun _ => some _) (fun k => ?_) (Ev.now _), .inl ⟨rfl, (0, (⟨#[]⟩ : ByteArray), 0, 0, -1), by decide, Ev.step (f := fun _ => some _) (fun k => ?_) (Ev.now _)⟩⟩
    · simp only [impl_lexOne.l0]
      rw [if_neg (by omega)]
      rfl
    · simp only [spec_l3sign.l0]
      rw [if_neg (by omega)]
  | succ d ih =>
    intro i h
    have hi : i < signW.length := by omega
    obtain ⟨z1, z2⟩ := sign_size signW[i] (List.getElem_mem hi)
    have hr := rd_sign i hi
    have on : (strings_HasPrefix.f (rest s a) signW[i] = some false) → (∀ k, spec_l3sign.l0 (k + 1) s (a : Int) signW (i : Int) = spec_l3sign.l0 k s (a : Int) signW ((i + 1 : Nat) : Int)) →
        ∃ (kd : Int) (tx : ByteArray) (n : Nat), Ev (fun k => impl_lexOne.l0 k (rest s a) signW (signW.length : Int) (i : Int)) (kd, tx, 0, 0, (n : Int)) ∧ ((n = 0 ∧ ∃ R : Int × ByteArray × Int × Int × Int, R.2.2.2.2 < 0 ∧ Ev (fun k => spec_l3sign.l0 k s (a : Int) signW (i : Int)) R) ∨ (0 < n ∧ a + n ≤ s.size ∧ Ev (fun k => spec_l3sign.l0 k s (a : Int) signW (i : Int)) (kd, tx, 0, (a : Int), ((a + n : Nat) : Int)))) := by
      intro f1 f2
      obtain ⟨kd, tx, n, e1, e2⟩ := ih (i + 1) (by omega)
      refine ⟨kd, tx, n, Ev.step (fun k => ?_) e1, ?_⟩
      · simp only [impl_lexOne.l0]
        rw [if_pos (by omega), if_pos (by omega), if_pos (by omega), hr, f1, Option.bind_some, if_neg (by simp), wrap_nat1 i (by omega)]
      · rcases e2 with ⟨z, R, hR, e2⟩ | ⟨z1, z2, e2⟩
        · exact .inl ⟨z, R, hR, Ev.step f2 e2⟩
        · exact .inr ⟨z1, z2, Ev.step f2 e2⟩
    by_cases hsz : a + signW[i].size ≤ s.size
    · have hp : strings_HasPrefix.f (rest s a) signW[i] = some ((s.extract a (a + signW[i].size)).toList == signW[i].toList) := by
        unfold strings_HasPrefix.f stringslite_HasPrefix.f
        rw [if_pos (by omega), if_pos (by omega), if_pos (by omega), Option.bind_some, Int.toNat_natCast, rest_take s a _ (by omega)]
      by_cases he : (s.extract a (a + signW[i].size)).toList = signW[i].toList
      · refine ⟨7, signW[i], signW[i].size, Ev.step (f := fun _ => some _) (fun k => ?_) (Ev.now _), .inr ⟨by omega, hsz, Ev.step (f := fun _ => some _) (fun k => ?_) (Ev.now _)⟩⟩
        · simp only [impl_lexOne.l0]
          rw [if_pos (by omega), if_pos (by omega), if_pos (by omega), hr, hp, Option.bind_some, if_pos (beq_iff_eq.2 he)]
        · simp only [spec_l3sign.l0]
          rw [if_pos (by omega), if_pos (by omega), hr, wrap_nat a _ (by omega), if_pos (by omega), if_pos (by omega), if_pos (by omega), Int.toNat_natCast, Int.toNat_natCast, if_pos he]
      · refine on (by rw [hp]; exact congrArg some (beq_false_of_ne he)) (fun k => ?_)
        simp only [spec_l3sign.l0]
        rw [if_pos (by omega), if_pos (by omega), hr, wrap_nat a _ (by omega), if_pos (by omega), if_pos (by omega), if_pos (by omega), Int.toNat_natCast, Int.toNat_natCast, if_neg he, wrap_nat1 i (by omega)]
    · refine on ?_ (fun k => ?_)
      · unfold strings_HasPrefix.f stringslite_HasPrefix.f
        rw [if_neg (by omega), Option.bind_some]
      · simp only [spec_l3sign.l0]
        rw [if_pos (by omega), if_pos (by omega), hr, wrap_nat a _ (by omega), if_neg (by omega), wrap_nat1 i (by omega)]
theorem sign_same (hD : isD (bt s (a : Int)) = false) (h34 : bt s (a : Int) ≠ 34) (hL : isL (bt s (a : Int)) = false) (h47 : bt s (a : Int) = 47 → eo q0 q1 = true) : Same s a (fun k => impl_lexOne.f k (rest s a) q0 q1 q2 q3) (fun k => spec_l3sign.f k s (a : Int)) := by
  obtain ⟨kd, tx, n, e1, e2⟩ := sign_loop hs a ha signW.length 0 (by omega)
  refine ⟨kd, tx, 0, n, one_j1 hs a ha q0 q1 q2 q3 hD h34 false (fun z => by rw [h47 z]; rfl) (fun _ => rfl) _ (Ev.step (fun k => ?_) e1), ?_⟩
  · simp only [impl_lexOne.j1]
    rw [if_neg (by simp), impl_isLetter_eq, hL, Option.bind_some, if_neg (by simp), split_eq, Option.bind_some]
    rfl
  · have f : ∀ k, spec_l3sign.f k s (a : Int) = spec_l3sign.l0 k s (a : Int) signW ((0 : Nat) : Int) := fun k => by
      unfold spec_l3sign.f
      rw [signs_eq, Option.bind_some]
      rfl
    rcases e2 with ⟨z, R, hR, e2⟩ | ⟨z1, z2, e2⟩
    · exact .inl ⟨z, R, hR, Ev.congr f e2⟩
    · exact .inr ⟨z1, z2, Ev.congr f e2⟩
end
end Go.Proofs.YtmddcohelcciaacDoor.PFnExactLex
