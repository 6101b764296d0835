/- Lex: each kind of token, alike on both sides. -/
import Derived.Test.YtmddcohelcciaacDoorPFnExactLexx
import Derived.Test.YtmddcohelcciaacDoorLFnExactLexReadDec
import Derived.Test.YtmddcohelcciaacDoorLFnExactLexLexChars
import Derived.Test.YtmddcohelcciaacDoorXLem
namespace Go.Proofs.YtmddcohelcciaacDoor.PFnExactLex
set_option linter.unusedVariables false
set_option linter.unusedSimpArgs false
open Go.RowKit Go.Proofs.YtmddcohelcciaacDoorW.PrintWords Go.Proofs.YtmddcohelcciaacDoorW.PrintLast Go.Proofs.YtmddcohelcciaacDoorW.PrintMore Go.Proofs.YtmddcohelcciaacDoor.XL
/-- What the two sides say of a token at place a: n bytes (none: no token). -/
def Same (s : ByteArray) (a : Nat) (I : Nat → Option (Int × ByteArray × Int × Int × Int)) (J : Nat → Option (Int × ByteArray × Int × Int × Int)) : Prop :=
  ∃ (kd : Int) (tx : ByteArray) (nu : Int) (n : Nat), Ev I (kd, tx, nu, 0, (n : Int)) ∧ ((n = 0 ∧ ∃ R, R.2.2.2.2 < 0 ∧ Ev J R) ∨ (0 < n ∧ a + n ≤ s.size ∧ Ev J (kd, tx, nu, (a : Int), ((a + n : Nat) : Int))))
section
variable {s : ByteArray} (hs : s.size ≤ 4000) (a : Nat) (ha : a < s.size)
include hs ha
theorem rest_small : (rest s a).size ≤ 4000 := by
  have := ha
  rw [rest_size]
  omega
/-- Numbers: where they end. -/
theorem num_digits : ∀ (d i : Nat) (v : Int × ByteArray × Int × Int × Int), i + d = s.size → Ev (fun k => spec_l3num.j1 k s (a : Int) ((i + scan isD s i : Nat) : Int)) v → Ev (fun k => spec_l3num.l0 k s (a : Int) (i : Int)) v := by
  intro d
  induction d with
  | zero =>
    intro i v h e
    rw [scan_end isD s i (by omega)] at e
    refine Ev.step (fun k => ?_) e
    simp only [spec_l3num.l0]
    rw [if_neg (by omega)]
    rfl
  | succ d ih =>
    intro i v h e
    cases hp : isD (bt s (i : Int)) with
    | true =>
      rw [scan_yes (by omega) hp, show i + (scan isD s (i + 1) + 1) = i + 1 + scan isD s (i + 1) by omega] at e
      refine Ev.step (fun k => ?_) (ih (i + 1) v (by omega) e)
      simp only [spec_l3num.l0]
      rw [if_pos (by omega), if_pos (by omega), spec_l1digit_eq, hp, Option.bind_some, if_pos (rfl : true = true), wrap_nat1 i (by omega)]
    | false =>
      rw [scan_no hp] at e
      refine Ev.step (fun k => ?_) e
      simp only [spec_l3num.l0]
      rw [if_pos (by omega), if_pos (by omega), spec_l1digit_eq, hp, Option.bind_some, if_neg (by simp)]
      rfl
theorem num_part : ∀ (d i : Nat), i + d = s.size → a ≤ i → Ev (fun k => spec_l3num.l1 k s (a : Int) (i : Int)) (1, (⟨#[]⟩ : ByteArray), (readV (s.extract a (i + scan isD s i))).1, (a : Int), ((i + scan isD s i : Nat) : Int)) := by
  intro d
  induction d with
  | zero =>
    intro i h h2
    rw [scan_end isD s i (by omega)]
    refine ev_use (spec_read (s.extract a i) (by rw [size_extract]; omega)) (Ev.now ()) (fun k g _ => ?_)
    simp only [spec_l3num.l1]
    rw [if_neg (by omega), if_pos (by omega), if_pos (by omega), if_pos (by omega), Int.toNat_natCast, Int.toNat_natCast, g, Option.bind_some]
    rfl
  | succ d ih =>
    intro i h h2
    cases hp : isD (bt s (i : Int)) with
    | true =>
      have e := ih (i + 1) (by omega) (by omega)
      rw [scan_yes (by omega) hp, show i + (scan isD s (i + 1) + 1) = i + 1 + scan isD s (i + 1) by omega]
      refine Ev.step (fun k => ?_) e
      simp only [spec_l3num.l1]
      rw [if_pos (by omega), if_pos (by omega), spec_l1digit_eq, hp, Option.bind_some, if_pos (rfl : true = true), wrap_nat1 i (by omega)]
    | false =>
      rw [scan_no hp]
      refine ev_use (spec_read (s.extract a i) (by rw [size_extract]; omega)) (Ev.now ()) (fun k g _ => ?_)
      simp only [spec_l3num.l1]
      rw [if_pos (by omega), if_pos (by omega), spec_l1digit_eq, hp, Option.bind_some, if_neg (by simp), if_pos (by omega), if_pos (by omega), if_pos (by omega), Int.toNat_natCast, Int.toNat_natCast, g, Option.bind_some]
      rfl
theorem num_same (hd : isD (bt s (a : Int)) = true) (q0 : Int) (q1 : ByteArray) (q2 q3 : Int) : Same s a (fun k => impl_lexOne.f k (rest s a) q0 q1 q2 q3) (fun k => spec_l3num.f k s (a : Int)) := by
  have hz := rest_size s a
  have hr := rest_small hs a ha
  have h0 : bt (rest s a) 0 = bt s (a : Int) := rest_bt s a 0 (by omega)
  have hn := rest_scan isD s a (s.size - a) 0 (by omega)
  rw [Nat.add_zero] at hn
  have hle := scan_le' isD s a (by omega)
  have hpos : 1 ≤ scan isD s a := by rw [scan_yes ha hd]; omega
  have hrun := runD (by omega : (rest s a).size ≤ 140737488351232) 0 (by omega)
  rw [hn] at hrun
  have hb : ∀ j : Nat, a + j < s.size → bt (rest s a) (j : Int) = bt s ((a + j : Nat) : Int) := fun j h => rest_bt s a j h
  -- the digits behind the point, or none
  have two : ∀ (b : Bool) (n : Nat), (b = true → a + scan isD s a + 1 < s.size ∧ n = scan isD s a + 1 + scan isD s (a + scan isD s a + 1)) → (b = false → n = scan isD s a) → n ≤ s.size - a →
      Ev (fun k => impl_lexOne.j0 k (rest s a) ((scan isD s a : Nat) : Int) b) (1, (⟨#[]⟩ : ByteArray), (readV (s.extract a (a + n))).1, 0, (n : Int)) ∧ Ev (fun k => spec_l3num.j2 k s (a : Int) ((a + scan isD s a : Nat) : Int) b) (1, (⟨#[]⟩ : ByteArray), (readV (s.extract a (a + n))).1, (a : Int), ((a + n : Nat) : Int)) := by
    intro b n hb1 hb2 hn2
    have read1 := impl_read ((rest s a).extract 0 n) (by rw [size_extract]; omega)
    rw [rest_take s a n (by omega)] at read1
    cases b with
    | true =>
      obtain ⟨h1, h2⟩ := hb1 rfl
      have hrun2 := runD (by omega : (rest s a).size ≤ 140737488351232) (scan isD s a + 1) (by omega)
      rw [rest_scan isD s a (s.size - a - (scan isD s a + 1)) (scan isD s a + 1) (by omega), ← Nat.add_assoc] at hrun2
      refine ⟨?_, ?_⟩
      · refine ev_use hrun2 read1 (fun k g1 g2 => ?_)
        simp only [impl_lexOne.j0]
        rw [if_pos trivial, wrap_nat1 _ (by omega), g1, Option.bind_some, show ((1 : Int) + ((scan isD s (a + scan isD s a + 1) : Nat) : Int)) = (((1 : Nat) : Int) + ((scan isD s (a + scan isD s a + 1) : Nat) : Int)) by omega, wrap_nat 1 _ (by omega), wrap_nat _ _ (by omega), if_pos (by omega), if_pos (by omega), Int.toNat_natCast, show scan isD s a + (1 + scan isD s (a + scan isD s a + 1)) = n by omega, rest_take s a n (by omega), g2, Option.bind_some]
      · have e := num_part hs a ha (s.size - (a + scan isD s a + 1)) (a + scan isD s a + 1) (by omega) (by omega)
        rw [show a + scan isD s a + 1 + scan isD s (a + scan isD s a + 1) = a + n by omega] at e
        refine Ev.step (fun k => ?_) e
        simp only [spec_l3num.j2]
        rw [if_pos trivial, wrap_nat1 _ (by omega)]
    | false =>
      have h2 := hb2 rfl
      refine ⟨?_, ?_⟩
      · refine ev_use read1 (Ev.now ()) (fun k g _ => ?_)
        simp only [impl_lexOne.j0]
        rw [if_neg (by simp), if_pos (by omega), if_pos (by omega), Int.toNat_natCast, ← h2, rest_take s a n (by omega), g, Option.bind_some]
      · refine ev_use (spec_read (s.extract a (a + n)) (by rw [size_extract]; omega)) (Ev.now ()) (fun k g _ => ?_)
        simp only [spec_l3num.j2]
        rw [if_neg (by simp), if_pos (by omega), if_pos (by omega), if_pos (by omega), Int.toNat_natCast, Int.toNat_natCast, ← h2, g, Option.bind_some]
  have fin : ∀ (b : Bool) (n : Nat), 0 < n → a + n ≤ s.size → Ev (fun k => impl_lexOne.j0 k (rest s a) ((scan isD s a : Nat) : Int) b) (1, (⟨#[]⟩ : ByteArray), (readV (s.extract a (a + n))).1, 0, (n : Int)) → Ev (fun k => spec_l3num.j2 k s (a : Int) ((a + scan isD s a : Nat) : Int) b) (1, (⟨#[]⟩ : ByteArray), (readV (s.extract a (a + n))).1, (a : Int), ((a + n : Nat) : Int)) →
      (∀ k v, impl_lexOne.j0 k (rest s a) ((scan isD s a : Nat) : Int) b = v → impl_run_isDigit.f k (rest s a) 0 = some ((scan isD s a : Nat) : Int) → impl_lexOne.f k (rest s a) q0 q1 q2 q3 = v) → (∀ k, spec_l3num.j1 (k + 1) s (a : Int) ((a + scan isD s a : Nat) : Int) = spec_l3num.j2 k s (a : Int) ((a + scan isD s a : Nat) : Int) b) →
      Same s a (fun k => impl_lexOne.f k (rest s a) q0 q1 q2 q3) (fun k => spec_l3num.f k s (a : Int)) := by
    intro b n n0 n1 e1 e2 f1 f2
    refine ⟨_, _, _, n, ev_use0 e1 hrun (fun k g1 g2 => f1 k _ g1 g2), .inr ⟨n0, n1, ?_⟩⟩
    refine Ev.congr (fun k => ?_) (num_digits hs a ha (s.size - a) a _ (by omega) (Ev.step f2 e2))
    rfl
  have open_ : ∀ k, impl_run_isDigit.f k (rest s a) 0 = some ((scan isD s a : Nat) : Int) → impl_lexOne.f k (rest s a) q0 q1 q2 q3 = (if (wrap64 (((scan isD s a : Nat) : Int) + 1)) < ((rest s a).size : Int) then (if 0 ≤ ((scan isD s a : Nat) : Int) then (if ((scan isD s a : Nat) : Int) < ((rest s a).size : Int) then (if (bt (rest s a) ((scan isD s a : Nat) : Int)) = 46 then (if 0 ≤ (wrap64 (((scan isD s a : Nat) : Int) + 1)) then ((impl_isDigit.f (bt (rest s a) (wrap64 (((scan isD s a : Nat) : Int) + 1)))).bind fun t245 => (impl_lexOne.j0 k (rest s a) ((scan isD s a : Nat) : Int) t245)) else (none)) else (impl_lexOne.j0 k (rest s a) ((scan isD s a : Nat) : Int) false)) else (none)) else (none)) else (impl_lexOne.j0 k (rest s a) ((scan isD s a : Nat) : Int) false)) := by
    intro k g
    unfold impl_lexOne.f
    rw [if_pos (by omega), h0, impl_isDigit_eq, hd, Option.bind_some, if_pos (rfl : true = true), g, Option.bind_some]
  by_cases c1 : a + scan isD s a + 1 < s.size
  · have b1 := hb (scan isD s a) (by omega)
    by_cases c2 : bt s ((a + scan isD s a : Nat) : Int) = 46
    · have b2 := hb (scan isD s a + 1) (by omega)
      have hle2 := scan_le' isD s (a + scan isD s a + 1) (by omega)
      cases hp : isD (bt s ((a + scan isD s a + 1 : Nat) : Int)) with
      | true =>
        obtain ⟨e1, e2⟩ := two true (scan isD s a + 1 + scan isD s (a + scan isD s a + 1)) (fun _ => ⟨c1, rfl⟩) (fun z => by cases z) (by omega)
        refine fin true _ (by omega) (by omega) e1 e2 (fun k v g1 g2 => ?_) (fun k => ?_)
        · rw [open_ k g2, wrap_nat1 _ (by omega), if_pos (by omega), if_pos (by omega), if_pos (by omega), b1, if_pos c2, if_pos (by omega), b2, ← Nat.add_assoc, impl_isDigit_eq, hp, Option.bind_some]
          exact g1
        · simp only [spec_l3num.j1]
          rw [wrap_nat1 _ (by omega), if_pos (by omega), if_pos (by omega), if_pos (by omega), if_pos c2, if_pos (by omega), spec_l1digit_eq, hp, Option.bind_some]
      | false =>
        obtain ⟨e1, e2⟩ := two false (scan isD s a) (fun z => by cases z) (fun _ => rfl) (by omega)
        refine fin false _ (by omega) (by omega) e1 e2 (fun k v g1 g2 => ?_) (fun k => ?_)
        · rw [open_ k g2, wrap_nat1 _ (by omega), if_pos (by omega), if_pos (by omega), if_pos (by omega), b1, if_pos c2, if_pos (by omega), b2, ← Nat.add_assoc, impl_isDigit_eq, hp, Option.bind_some]
          exact g1
        · simp only [spec_l3num.j1]
          rw [wrap_nat1 _ (by omega), if_pos (by omega), if_pos (by omega), if_pos (by omega), if_pos c2, if_pos (by omega), spec_l1digit_eq, hp, Option.bind_some]
    · obtain ⟨e1, e2⟩ := two false (scan isD s a) (fun z => by cases z) (fun _ => rfl) (by omega)
      refine fin false _ (by omega) (by omega) e1 e2 (fun k v g1 g2 => ?_) (fun k => ?_)
      · rw [open_ k g2, wrap_nat1 _ (by omega), if_pos (by omega), if_pos (by omega), if_pos (by omega), b1, if_neg c2]
        exact g1
      · simp only [spec_l3num.j1]
        rw [wrap_nat1 _ (by omega), if_pos (by omega), if_pos (by omega), if_pos (by omega), if_neg c2]
  · obtain ⟨e1, e2⟩ := two false (scan isD s a) (fun z => by cases z) (fun _ => rfl) (by omega)
    refine fin false _ (by omega) (by omega) e1 e2 (fun k v g1 g2 => ?_) (fun k => ?_)
    · rw [open_ k g2, wrap_nat1 _ (by omega), if_neg (by omega)]
      exact g1
    · simp only [spec_l3num.j1]
      rw [wrap_nat1 _ (by omega), if_neg (by omega)]
end
end Go.Proofs.YtmddcohelcciaacDoor.PFnExactLex
