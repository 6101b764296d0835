/- The text of a set of bytes. -/
import Derived.Test.YtmddcohelcciaaaPFnExactReTextx
import Derived.Test.YtmddcohelcciaaaLFnExactReTextReRow
import Derived.Test.YtmddcohelcciaaaLFnExactReTextReOk
import Derived.Test.YtmddcohelcciaaaLFnExactReTextReOkMain
import Derived.Test.YtmddcohelcciaaaXLem
import Derived.Lib.IndexLaws
namespace Go.Proofs.Ytmddcohelcciaaa.PFnExactReText
set_option linter.unusedVariables false
set_option linter.unusedSimpArgs false
open Go.RowKit Go.Proofs.YtmddcohelcciaaaW.PrintWords Go.Proofs.YtmddcohelcciaaaW.PrintLast Go.Proofs.YtmddcohelcciaaaW.PrintMore Go.Proofs.Ytmddcohelcciaaa.XL
theorem str_size (xs : List Int) : (strOfNums xs).size = xs.length := by
  have h : (strOfNums xs).data.toList.length = xs.length := by rw [strOfNums_data, List.length_map]
  rw [Array.length_toList] at h
  exact h
theorem bt_data (s : ByteArray) (j : Nat) (b : UInt8) (h : s.data.toList[j]? = some b) : bt s (j : Int) = (b.toNat : Int) := by
  obtain ⟨hj, e⟩ := List.getElem?_eq_some_iff.1 h
  have hj2 : j < s.size := by rw [Array.length_toList] at hj; exact hj
  unfold bt
  rw [dif_pos (by rw [Int.toNat_natCast]; exact hj2)]
  rw [← e]
  rfl
theorem byte_of (c : Int) (h0 : 0 ≤ c) (h1 : c ≤ 255) : ((c.toNat.toUInt8).toNat : Int) = c := by
  have : c.toNat < 256 := by omega
  simp [Nat.toUInt8, UInt8.toNat_ofNat']
  omega
theorem has_loop (s : ByteArray) (c : Int) (hs : s.size ≤ 1048576) : ∀ (d i : Nat), i + d = s.size → ∃ b : Bool, Ev (fun k => spec_l2has.l0 k s c (i : Int)) b ∧ (b = true ↔ ∃ j, i ≤ j ∧ j < s.size ∧ bt s (j : Int) = c) := by
  intro d
  induction d with
  | zero =>
    intro i h
    refine ⟨false, Ev.step (f := fun _ => some _) (fun k => ?_) (Ev.now _), ⟨fun z => (by cases z), fun ⟨j, h1, h2, _⟩ => absurd h2 (by omega)⟩⟩
    simp only [spec_l2has.l0]
    rw [if_neg (by omega)]
  | succ d ih =>
    intro i h
    by_cases hc : bt s (i : Int) = c
    · refine ⟨true, Ev.step (f := fun _ => some _) (fun k => ?_) (Ev.now _), ⟨fun _ => ⟨i, Nat.le_refl _, by omega, hc⟩, fun _ => rfl⟩⟩
      simp only [spec_l2has.l0]
      rw [if_pos (by omega), if_pos (by omega), if_pos hc]
    · obtain ⟨b, e, hb⟩ := ih (i + 1) (by omega)
      refine ⟨b, Ev.step (fun k => ?_) e, hb.trans ⟨fun ⟨j, h1, h2, h3⟩ => ⟨j, Nat.le_of_succ_le h1, h2, h3⟩, fun ⟨j, h1, h2, h3⟩ => ⟨j, ?_, h2, h3⟩⟩⟩
      · simp only [spec_l2has.l0]
        rw [if_pos (by omega), if_pos (by omega), if_neg hc, wrap_nat1 i (by omega)]
      · rcases Nat.lt_or_ge i j with g | g
        · exact g
        · obtain rfl : i = j := Nat.le_antisymm h1 g
          exact absurd h3 hc
theorem index_has (s : ByteArray) (c : Int) (h0 : 0 ≤ c) (h1 : c ≤ 255) : Lib.indexByte s.data.toList c.toNat.toUInt8 ≥ 0 ↔ ∃ j, 0 ≤ j ∧ j < s.size ∧ bt s (j : Int) = c := by
  refine ⟨fun h => ?_, fun ⟨j, _, h2, h3⟩ => ?_⟩
  · obtain ⟨o, ho⟩ := Int.eq_ofNat_of_zero_le h
    obtain ⟨e, _⟩ := Lib.indexByte_some ho
    have hj := (List.getElem?_eq_some_iff.1 e).1
    rw [Array.length_toList] at hj
    exact ⟨o, Nat.zero_le _, hj, by rw [bt_data s o _ e, byte_of c h0 h1]⟩
  · refine Classical.byContradiction fun h => ?_
    have hm : Lib.indexByte s.data.toList c.toNat.toUInt8 = -1 := by
      have := Lib.indexByte_ge s.data.toList c.toNat.toUInt8
      omega
    have hj : j < s.data.toList.length := by rw [Array.length_toList]; exact h2
    refine Lib.indexByte_none hm j ?_
    rw [List.getElem?_eq_getElem hj]
    congr 1
    have e := bt_data s j _ (List.getElem?_eq_getElem hj)
    rw [h3] at e
    rw [← UInt8.toNat_inj]
    have e2 := byte_of c h0 h1
    omega
theorem esc_same (c : Int) (s : ByteArray) (h0 : 0 ≤ c) (h1 : c ≤ 255) (hs : s.size ≤ 1048576) : ∃ v : ByteArray, Ev (fun k => spec_l2esc.f k c s) v ∧ impl_masked.f c s = some v ∧ v.size ≤ 2 := by
  obtain ⟨b, e, hb⟩ := has_loop s c hs s.size 0 (by omega)
  have hi := index_has s c h0 h1
  by_cases hc : Lib.indexByte s.data.toList c.toNat.toUInt8 ≥ 0
  · obtain rfl : b = true := hb.2 (hi.1 hc)
    refine ⟨strOfNums [92, c], ev_use1 e (fun k g => ?_), ?_, by rw [str_size]; simp⟩
    · unfold spec_l2esc.f spec_l2has.f
      rw [show spec_l2has.l0 k s c 0 = some true from g, Option.bind_some, if_pos (rfl : true = true)]
    · unfold impl_masked.f strings_IndexByte.f
      rw [Option.bind_some, if_pos hc, Option.bind_some, if_pos (by rw [str_size]; simp)]
      congr 1
  · obtain rfl : b = false := by
      cases b with
      | true => exact absurd (hi.2 (hb.1 rfl)) hc
      | false => rfl
    refine ⟨strOfNums [c], ev_use1 e (fun k g => ?_), ?_, by rw [str_size]; simp⟩
    · unfold spec_l2esc.f spec_l2has.f
      rw [show spec_l2has.l0 k s c 0 = some false from g, Option.bind_some, if_neg (by simp)]
    · unfold impl_masked.f strings_IndexByte.f
      rw [Option.bind_some, if_neg hc]
theorem set_loop (s : ByteArray) (a : Int) (b : Bool) (l : List Int) (hs : s.size ≤ 1048576) : ∀ (d i : Nat) (acc : ByteArray), i + 2 * d = s.size → acc.size ≤ 2 + 3 * i →
    ∃ v : ByteArray, Ev (fun k => spec_l2setText.l0 k acc (i : Int) a b s l) v ∧ Ev (fun k => impl_setText.l0 k acc (i : Int) a b s l) v ∧ v.size ≤ 4000000 := by
  intro d
  induction d with
  | zero =>
    intro i acc h ha
    refine ⟨acc ++ (⟨#[93]⟩ : ByteArray), Ev.step (f := fun _ => some _) (fun k => ?_) (Ev.now _), Ev.step (f := fun _ => some _) (fun k => ?_) (Ev.now _), by rw [ByteArray.size_append]; show acc.size + 1 ≤ _; omega⟩
    · simp only [spec_l2setText.l0]
      rw [if_neg (by omega), if_pos (by omega)]
    · simp only [impl_setText.l0]
      rw [if_neg (by omega), if_pos (by omega)]
  | succ d ih =>
    intro i acc h ha
    obtain ⟨v1, e1, m1, z1⟩ := esc_same (bt s (i : Int)) (⟨#[93, 94, 45, 92]⟩ : ByteArray) (bt_range s _).1 (bt_range s _).2 (by decide)
    by_cases c : bt s ((i + 1 : Nat) : Int) = bt s (i : Int)
    · obtain ⟨v, f1, f2, f3⟩ := ih (i + 2) (acc ++ v1) (by omega) (by rw [ByteArray.size_append]; omega)
      refine ⟨v, ev_use e1 f1 (fun k g1 g2 => ?_), Ev.step (fun k => ?_) f2, f3⟩
      · simp only [spec_l2setText.l0]
        rw [if_pos (by omega), if_pos (by omega), g1, Option.bind_some, if_pos (by omega), wrap_nat1 i (by omega), if_pos (by omega), if_pos (by omega), if_pos c, show ((i : Int) + 2) = (i : Int) + ((2 : Nat) : Int) by omega, wrap_nat i 2 (by omega)]
        exact g2
      · simp only [impl_setText.l0]
        rw [if_pos (by omega), if_pos (by omega), m1, Option.bind_some, if_pos (by omega), wrap_nat1 i (by omega), if_pos (by omega), if_pos (by omega), if_pos c.symm, show ((i : Int) + 2) = (i : Int) + ((2 : Nat) : Int) by omega, wrap_nat i 2 (by omega)]
    · obtain ⟨v2, e2, m2, z2⟩ := esc_same (bt s ((i + 1 : Nat) : Int)) (⟨#[93, 94, 45, 92]⟩ : ByteArray) (bt_range s _).1 (bt_range s _).2 (by decide)
      have hz : (((acc ++ v1) ++ (⟨#[45]⟩ : ByteArray)) ++ v2).size = acc.size + v1.size + 1 + v2.size := by
        rw [ByteArray.size_append, ByteArray.size_append, ByteArray.size_append]
        rfl
      obtain ⟨v, f1, f2, f3⟩ := ih (i + 2) (((acc ++ v1) ++ (⟨#[45]⟩ : ByteArray)) ++ v2) (by omega) (by rw [hz]; omega)
      refine ⟨v, ev_use (ev_use0 e1 e2 (F := fun k => some (spec_l2esc.f k (bt s (i : Int)) (⟨#[93, 94, 45, 92]⟩ : ByteArray), spec_l2esc.f k (bt s ((i + 1 : Nat) : Int)) (⟨#[93, 94, 45, 92]⟩ : ByteArray))) (r := (some v1, some v2)) (fun k g1 g2 => by rw [g1, g2])) f1 (fun k g g2 => ?_), Ev.step (fun k => ?_) f2, f3⟩
      · simp only [Option.some.injEq, Prod.mk.injEq] at g
        simp only [spec_l2setText.l0]
        rw [if_pos (by omega), if_pos (by omega), g.1, Option.bind_some, if_pos (by omega), wrap_nat1 i (by omega), if_pos (by omega), if_pos (by omega), if_neg c, if_pos (by rw [ByteArray.size_append]; omega), g.2, Option.bind_some, if_pos (by rw [ByteArray.size_append, ByteArray.size_append]; show acc.size + v1.size + 1 + v2.size ≤ _; omega), show ((i : Int) + 2) = (i : Int) + ((2 : Nat) : Int) by omega, wrap_nat i 2 (by omega)]
        exact g2
      · simp only [impl_setText.l0]
        rw [if_pos (by omega), if_pos (by omega), m1, Option.bind_some, if_pos (by omega), wrap_nat1 i (by omega), if_pos (by omega), if_pos (by omega), if_neg (fun q => c q.symm), m2, Option.bind_some, if_pos (by omega), if_pos (by rw [ByteArray.size_append, ByteArray.size_append]; show acc.size + v1.size + (1 + v2.size) ≤ _; omega), show ((i : Int) + 2) = (i : Int) + ((2 : Nat) : Int) by omega, wrap_nat i 2 (by omega)]
        rw [show (acc ++ v1) ++ ((⟨#[45]⟩ : ByteArray) ++ v2) = ((acc ++ v1) ++ (⟨#[45]⟩ : ByteArray)) ++ v2 from ByteArray.append_assoc.symm]
theorem set_same (x : S39) (hs : x.f2.size ≤ 1048576) (hp : x.f2.size % 2 = 0) : ∃ v : ByteArray, Ev (fun k => spec_l2setText.f k x.f0 x.f1 x.f2 x.f3) v ∧ Ev (fun k => impl_setText.f k x.f0 x.f1 x.f2 x.f3) v ∧ v.size ≤ 4000000 := by
  have dot1 : Ev (fun k => spec_l2setText.j0 k true x.f0 x.f1 x.f2 x.f3) (⟨#[46]⟩ : ByteArray) := by
    refine Ev.step (f := fun _ => some _) (fun k => ?_) (Ev.now _)
    simp only [spec_l2setText.j0]
    rw [if_pos trivial]
  have dot2 : Ev (fun k => impl_setText.j0 k true x.f0 x.f1 x.f2 x.f3) (⟨#[46]⟩ : ByteArray) := by
    refine Ev.step (f := fun _ => some _) (fun k => ?_) (Ev.now _)
    simp only [impl_setText.j0]
    rw [if_pos trivial]
  by_cases hn : x.f1 = true
  · by_cases hz : (x.f2.toList == ([] : List UInt8)) = true
    · refine ⟨(⟨#[46]⟩ : ByteArray), Ev.congr (fun k => ?_) dot1, Ev.congr (fun k => ?_) dot2, by decide⟩
      · unfold spec_l2setText.f
        rw [if_pos hn, hz]
      · unfold impl_setText.f
        rw [if_pos hn, hz]
    · have hz' : (x.f2.toList == ([] : List UInt8)) = false := by simpa using hz
      obtain ⟨v, e1, e2, e3⟩ := set_loop x.f2 x.f0 x.f1 x.f3 hs (x.f2.size / 2) 0 (⟨#[91, 94]⟩ : ByteArray) (by omega) (by decide)
      have a2 : Ev (fun k => spec_l2setText.j2 k (⟨#[91, 94]⟩ : ByteArray) x.f0 x.f1 x.f2 x.f3) v := Ev.step (fun k => by simp only [spec_l2setText.j2]; rfl) e1
      have a1 : Ev (fun k => spec_l2setText.j1 k false x.f0 x.f1 x.f2 x.f3) v := by
        refine Ev.step (fun k => ?_) a2
        simp only [spec_l2setText.j1]
        rw [if_neg (by simp), if_pos hn]
      have a0 : Ev (fun k => spec_l2setText.j0 k false x.f0 x.f1 x.f2 x.f3) v := by
        refine Ev.step (fun k => ?_) a1
        simp only [spec_l2setText.j0]
        rw [if_neg (by simp), if_pos hn]
      have b2 : Ev (fun k => impl_setText.j2 k ((⟨#[91]⟩ : ByteArray) ++ (⟨#[94]⟩ : ByteArray)) x.f0 x.f1 x.f2 x.f3) v := Ev.step (fun k => by simp only [impl_setText.j2]; rfl) e2
      have b1 : Ev (fun k => impl_setText.j1 k x.f0 x.f1 x.f2 x.f3) v := by
        refine Ev.step (fun k => ?_) b2
        simp only [impl_setText.j1]
        rw [if_pos hn, if_pos (by decide)]
      have b0 : Ev (fun k => impl_setText.j0 k false x.f0 x.f1 x.f2 x.f3) v := by
        refine Ev.step (fun k => ?_) b1
        simp only [impl_setText.j0]
        rw [if_neg (by simp), if_pos hn]
      refine ⟨v, Ev.congr (fun k => ?_) a0, Ev.congr (fun k => ?_) b0, e3⟩
      · unfold spec_l2setText.f
        rw [if_pos hn, hz']
      · unfold impl_setText.f
        rw [if_pos hn, hz']
  · obtain ⟨v, e1, e2, e3⟩ := set_loop x.f2 x.f0 x.f1 x.f3 hs (x.f2.size / 2) 0 (⟨#[91]⟩ : ByteArray) (by omega) (by decide)
    have a2 : Ev (fun k => spec_l2setText.j2 k (⟨#[91]⟩ : ByteArray) x.f0 x.f1 x.f2 x.f3) v := Ev.step (fun k => by simp only [spec_l2setText.j2]; rfl) e1
    have a1 : Ev (fun k => spec_l2setText.j1 k false x.f0 x.f1 x.f2 x.f3) v := by
      refine Ev.step (fun k => ?_) a2
      simp only [spec_l2setText.j1]
      rw [if_neg (by simp), if_neg hn]
    have b2 : Ev (fun k => impl_setText.j2 k (⟨#[91]⟩ : ByteArray) x.f0 x.f1 x.f2 x.f3) v := Ev.step (fun k => by simp only [impl_setText.j2]; rfl) e2
    have b1 : Ev (fun k => impl_setText.j1 k x.f0 x.f1 x.f2 x.f3) v := by
      refine Ev.step (fun k => ?_) b2
      simp only [impl_setText.j1]
      rw [if_neg hn]
    have fin : ∀ u : ByteArray, Ev (fun k => spec_l2setText.j0 k false x.f0 x.f1 x.f2 x.f3) u → Ev (fun k => impl_setText.j0 k false x.f0 x.f1 x.f2 x.f3) u → u.size ≤ 4000000 →
        ∃ v : ByteArray, Ev (fun k => spec_l2setText.f k x.f0 x.f1 x.f2 x.f3) v ∧ Ev (fun k => impl_setText.f k x.f0 x.f1 x.f2 x.f3) v ∧ v.size ≤ 4000000 := by
      intro u h1 h2 h3
      refine ⟨u, Ev.congr (fun k => ?_) h1, Ev.congr (fun k => ?_) h2, h3⟩
      · unfold spec_l2setText.f
        rw [if_neg hn]
      · unfold impl_setText.f
        rw [if_neg hn]
    by_cases h2 : (x.f2.size : Int) = 2
    · by_cases hb : bt x.f2 0 = bt x.f2 1
      · obtain ⟨u, u1, u2, u3⟩ := esc_same (bt x.f2 0) (⟨#[40, 41, 124, 42, 43, 63, 91, 93, 94, 36, 46, 92]⟩ : ByteArray) (bt_range _ _).1 (bt_range _ _).2 (by decide)
        have a1' : Ev (fun k => spec_l2setText.j1 k true x.f0 x.f1 x.f2 x.f3) u := by
          refine ev_use u1 (Ev.now ()) (fun k g _ => ?_)
          simp only [spec_l2setText.j1]
          rw [if_pos trivial, if_pos (by omega), g, Option.bind_some]
        refine fin u (Ev.step (fun k => ?_) a1') (Ev.step (f := fun _ => some _) (fun k => ?_) (Ev.now _)) (by omega)
        · simp only [spec_l2setText.j0]
          rw [if_neg (by simp), if_neg hn, if_pos h2, if_pos (by omega), if_pos (by omega), show (bt x.f2 0 == bt x.f2 1) = true by simpa using hb]
        · simp only [impl_setText.j0]
          rw [if_neg (by simp), if_neg hn, if_pos h2, if_pos (by omega), if_pos (by omega), if_pos hb, u2, Option.bind_some]
      · refine fin v (Ev.step (fun k => ?_) a1) (Ev.step (fun k => ?_) b1) e3
        · simp only [spec_l2setText.j0]
          rw [if_neg (by simp), if_neg hn, if_pos h2, if_pos (by omega), if_pos (by omega), show (bt x.f2 0 == bt x.f2 1) = false by simpa using hb]
        · simp only [impl_setText.j0]
          rw [if_neg (by simp), if_neg hn, if_pos h2, if_pos (by omega), if_pos (by omega), if_neg hb]
    · refine fin v (Ev.step (fun k => ?_) a1) (Ev.step (fun k => ?_) b1) e3
      · simp only [spec_l2setText.j0]
        rw [if_neg (by simp), if_neg hn, if_neg h2]
      · simp only [impl_setText.j0]
        rw [if_neg (by simp), if_neg hn, if_neg h2]
end Go.Proofs.Ytmddcohelcciaaa.PFnExactReText
