/- The text of a node, with what is below it. -/
import Derived.Test.YtmddcohelcciaaaPFnExactReTextx
import Derived.Test.YtmddcohelcciaaaLFnExactReTextReRow
import Derived.Test.YtmddcohelcciaaaLFnExactReTextReOk
import Derived.Test.YtmddcohelcciaaaLFnExactReTextReOkMain
import Derived.Test.YtmddcohelcciaaaLFnExactReTextReSet
import Derived.Test.YtmddcohelcciaaaXLem
namespace Go.Proofs.Ytmddcohelcciaaa.PFnExactReText
set_option linter.unusedVariables false
set_option linter.unusedSimpArgs false
open Go.RowKit Go.Proofs.YtmddcohelcciaaaW.PrintWords Go.Proofs.YtmddcohelcciaaaW.PrintLast Go.Proofs.YtmddcohelcciaaaW.PrintMore Go.Proofs.Ytmddcohelcciaaa.XL
/-- A node's text that the program goes on with. -/
def good (o : ByteArray) (d : Int) (ok : Bool) : Prop := ok = true ∧ o.size ≤ 200 ∧ d ≤ 20
/-- What the two sides say of a node at place a. -/
def NodeOk (L : List S39) (a : Nat) : Prop := ∃ (o : ByteArray) (d : Int) (ok : Bool) (s : ByteArray) (e : Int), Ev (fun k => impl_reText.f k L (a : Int)) (o, d, ok) ∧ Ev (fun k => spec_l2text.f k L (a : Int)) (s, e) ∧
  o.size ≤ 4000000 ∧ 0 ≤ d ∧ d ≤ a ∧ s.size ≤ 4000000 ∧ -1 ≤ e ∧ e ≤ 20 ∧ (good o d ok → e = d ∧ s = o) ∧ (¬ good o d ok → e < 0 ∨ 200 < s.size)
section
variable (L : List S39) (hL : L.length ≤ 200) (hok : ∀ j, ∀ h : j < L.length, Fine L[j] ∧ ∀ y ∈ L[j].f3, 0 ≤ y ∧ y < j) (hs : ∀ x ∈ L, x.f2.size ≤ 1048576 ∧ x.f3.length ≤ 1048576)
/-- Whether a kid's text stands in brackets. -/
def inB (L : List S39) (a y : Int) : Bool := if (rd_T39 L y).f0 = 4 then true else if (rd_T39 L y).f0 = 3 then a != 4 else false
def wrapT (b : Bool) (o : ByteArray) : ByteArray := if b = true then ((⟨#[40]⟩ : ByteArray) ++ o) ++ (⟨#[41]⟩ : ByteArray) else o
def wrapD (b : Bool) (d : Int) : Int := if b = true then d + 1 else d
/-- Whether an alternative's stroke comes first. -/
def bar (a p : Int) : Bool := if p > 0 then a == 4 else false
def join (a p : Int) (out o : ByteArray) : ByteArray := if bar a p = true then (out ++ (⟨#[124]⟩ : ByteArray)) ++ o else out ++ o
theorem wrapT_size (b : Bool) (o : ByteArray) : (wrapT b o).size ≤ o.size + 2 ∧ o.size ≤ (wrapT b o).size := by
  unfold wrapT
  split
  · rw [ByteArray.size_append, ByteArray.size_append]
    show 1 + o.size + 1 ≤ _ ∧ _ ≤ 1 + o.size + 1
    omega
  · omega
theorem join_size (a p : Int) (out o : ByteArray) : (join a p out o).size ≤ out.size + 1 + o.size ∧ out.size + o.size ≤ (join a p out o).size := by
  unfold join
  split
  · rw [ByteArray.size_append, ByteArray.size_append]
    show out.size + 1 + o.size ≤ _ ∧ _ ≤ out.size + 1 + o.size
    omega
  · rw [ByteArray.size_append]
    omega
/-- One round of the program's: a kid's text is put behind what there is. -/
theorem impl_round (x : S39) (i : Nat) (p y : Nat) (hp : p < x.f3.length) (hk : x.f3.length ≤ 1048576) (hy : x.f3[p] = (y : Int)) (hyL : y < L.length) (out : ByteArray) (dp : Int) (ho : out.size ≤ 200) (o : ByteArray) (d : Int) (ok : Bool) (hos : o.size ≤ 4000000) (hd : 0 ≤ d) (hd2 : d ≤ 1000)
    (ek : Ev (fun k => impl_reText.f k L (y : Int)) (o, d, ok)) (r : ByteArray × Int × Bool)
    (h : (ok = true ∧ (join x.f0 p out (wrapT (inB L x.f0 y) o)).size ≤ 200 → Ev (fun k => impl_reText.l0 k L (join x.f0 p out (wrapT (inB L x.f0 y) o)) (mx dp (wrapD (inB L x.f0 y) d)) x.f3 (x.f3.length : Int) ((p + 1 : Nat) : Int) x.f0 x.f1 x.f2 x.f3) r) ∧
      (¬ (ok = true ∧ (join x.f0 p out (wrapT (inB L x.f0 y) o)).size ≤ 200) → r = ((⟨#[]⟩ : ByteArray), 0, false))) :
    Ev (fun k => impl_reText.l0 k L out dp x.f3 (x.f3.length : Int) (p : Int) x.f0 x.f1 x.f2 x.f3) r := by
  have wz := wrapT_size (inB L x.f0 y) o
  have jz := join_size x.f0 p out (wrapT (inB L x.f0 y) o)
  have e3 : ∀ (b : Bool), b = bar x.f0 p → Ev (fun k => impl_reText.j3 k L out dp (wrapT (inB L x.f0 y) o) (wrapD (inB L x.f0 y) d) ok x.f3 (x.f3.length : Int) (p : Int) b x.f0 x.f1 x.f2 x.f3) r := by
    intro b hb
    have sz1 : (out ++ (⟨#[124]⟩ : ByteArray)).size = out.size + 1 := by rw [ByteArray.size_append]; rfl
    by_cases hg : ok = true ∧ (join x.f0 p out (wrapT (inB L x.f0 y) o)).size ≤ 200
    · refine Ev.step (fun k => ?_) (h.1 hg)
      have g2 := hg.2
      simp only [impl_reText.j3]
      unfold join at g2 ⊢
      rw [← hb] at g2 ⊢
      cases b with
      | true =>
        rw [if_pos rfl] at g2
        rw [if_pos rfl, if_pos (by omega), if_pos (by omega), if_pos hg.1, if_neg (by omega), if_pos rfl, wrap_nat1 p (by omega)]
      | false =>
        rw [if_neg (by simp)] at g2
        rw [if_neg (by simp), if_pos (by omega), if_pos hg.1, if_neg (by omega), if_neg (by simp), wrap_nat1 p (by omega)]
    · rw [h.2 hg]
      refine Ev.step (f := fun _ => some _) (fun k => ?_) (Ev.now _)
      simp only [impl_reText.j3]
      unfold join at hg
      rw [← hb] at hg
      cases b with
      | true =>
        rw [if_pos rfl] at hg
        rw [if_pos rfl, if_pos (by omega), if_pos (by omega)]
        by_cases c : ok = true
        · rw [if_pos c, if_pos (by
            have : ¬ ((out ++ (⟨#[124]⟩ : ByteArray)) ++ wrapT (inB L x.f0 y) o).size ≤ 200 := fun q => hg ⟨c, q⟩
            omega)]
        · rw [if_neg c]
      | false =>
        rw [if_neg (by simp)] at hg
        rw [if_neg (by simp), if_pos (by omega)]
        by_cases c : ok = true
        · rw [if_pos c, if_pos (by
            have : ¬ (out ++ wrapT (inB L x.f0 y) o).size ≤ 200 := fun q => hg ⟨c, q⟩
            omega)]
        · rw [if_neg c]
  have e2 : Ev (fun k => impl_reText.j2 k L out dp (p : Int) (wrapT (inB L x.f0 y) o) (wrapD (inB L x.f0 y) d) ok x.f3 (x.f3.length : Int) (p : Int) x.f0 x.f1 x.f2 x.f3) r := by
    by_cases c : (p : Int) > 0
    · refine Ev.step (fun k => ?_) (e3 (x.f0 == 4) (by unfold bar; rw [if_pos c]))
      simp only [impl_reText.j2]
      rw [if_pos c]
    · refine Ev.step (fun k => ?_) (e3 false (by unfold bar; rw [if_neg c]))
      simp only [impl_reText.j2]
      rw [if_neg c]
  have e1 : ∀ b, b = inB L x.f0 y → Ev (fun k => impl_reText.j1 k L out dp (p : Int) o d ok x.f3 (x.f3.length : Int) (p : Int) b x.f0 x.f1 x.f2 x.f3) r := by
    intro b hb
    refine Ev.step (fun k => ?_) e2
    simp only [impl_reText.j1]
    rw [← hb]
    unfold wrapT wrapD
    cases b with
    | true => rw [if_pos rfl, if_pos (by omega), if_pos (by rw [ByteArray.size_append]; show 1 + o.size + 1 ≤ _; omega), if_pos rfl, if_pos rfl, wrap_id (n := d + 1) (by omega) (by omega)]
    | false => rw [if_neg (by simp), if_neg (by simp), if_neg (by simp)]
  have e0 : Ev (fun k => some (impl_reText.f k L (y : Int), impl_reText.j1 k L out dp (p : Int) o d ok x.f3 (x.f3.length : Int) (p : Int) (inB L x.f0 y) x.f0 x.f1 x.f2 x.f3)) (some (o, d, ok), some r) := ev_use0 ek (e1 _ rfl) (fun k g1 g2 => by rw [g1, g2])
  refine ev_use e0 (Ev.now ()) (fun k g _ => ?_)
  simp only [Option.some.injEq, Prod.mk.injEq] at g
  simp only [impl_reText.l0]
  rw [if_pos (by omega), if_pos (by omega), if_pos (by omega), rd_get _ p hp, hy, g.1, Option.bind_some, if_pos (by omega), if_pos (by omega)]
  have g2 := g.2
  unfold inB at g2
  by_cases c4 : (rd_T39 L (y : Int)).f0 = 4
  · rw [if_pos c4] at g2 ⊢
    exact g2
  · rw [if_neg c4] at g2 ⊢
    by_cases c3 : (rd_T39 L (y : Int)).f0 = 3
    · rw [if_pos c3] at g2 ⊢
      exact g2
    · rw [if_neg c3] at g2 ⊢
      exact g2
/-- One round of the model's. -/
theorem spec_round (x : S39) (p y : Nat) (hp : p < x.f3.length) (hk : x.f3.length ≤ 1048576) (hy : x.f3[p] = (y : Int)) (hyL : y < L.length) (out : ByteArray) (dp : Int) (ho : out.size ≤ 300 + p * 5000000) (o : ByteArray) (d : Int) (hos : o.size ≤ 4000000) (hd : -1 ≤ d) (hd2 : d ≤ 20)
    (ek : Ev (fun k => spec_l2text.f k L (y : Int)) (o, d)) (r : ByteArray × Int)
    (h : (0 ≤ d → Ev (fun k => spec_l2text.l0 k L (join x.f0 p out (wrapT (inB L x.f0 y) o)) (mx dp (wrapD (inB L x.f0 y) d)) ((p + 1 : Nat) : Int) x.f0 x.f1 x.f2 x.f3) r) ∧ (d < 0 → r = ((⟨#[]⟩ : ByteArray), -1))) :
    Ev (fun k => spec_l2text.l0 k L out dp (p : Int) x.f0 x.f1 x.f2 x.f3) r := by
  by_cases hneg : d < 0
  · rw [h.2 hneg]
    refine ev_use ek (Ev.now ()) (fun k g _ => ?_)
    simp only [spec_l2text.l0]
    rw [if_pos (by omega), if_pos (by omega), rd_get _ p hp, hy, g, Option.bind_some, if_pos hneg]
  · have wz := wrapT_size (inB L x.f0 y) o
    have hb200 : p * 5000000 ≤ 1048576 * 5000000 := Nat.mul_le_mul_right _ (by omega)
    have e3 : ∀ (b : Bool), b = bar x.f0 p → Ev (fun k => spec_l2text.j3 k L out dp (p : Int) (wrapT (inB L x.f0 y) o) (wrapD (inB L x.f0 y) d) b x.f0 x.f1 x.f2 x.f3) r := by
      intro b hb
      have sz1 : (out ++ (⟨#[124]⟩ : ByteArray)).size = out.size + 1 := by rw [ByteArray.size_append]; rfl
      refine Ev.step (fun k => ?_) (h.1 (by omega))
      simp only [spec_l2text.j3]
      unfold join mx
      rw [← hb]
      cases b with
      | true =>
        rw [if_pos rfl, if_pos (by omega), if_pos (by omega), if_pos rfl]
        by_cases c : wrapD (inB L x.f0 y) d > dp
        · rw [if_pos c, if_pos (by omega), wrap_nat1 p (by omega)]
        · rw [if_neg c, if_neg (by omega), wrap_nat1 p (by omega)]
      | false =>
        rw [if_neg (show ¬ (false = true) by simp), if_pos (by omega), if_neg (show ¬ (false = true) by simp)]
        by_cases c : wrapD (inB L x.f0 y) d > dp
        · rw [if_pos c, if_pos (by omega), wrap_nat1 p (by omega)]
        · rw [if_neg c, if_neg (by omega), wrap_nat1 p (by omega)]
    have e2 : Ev (fun k => spec_l2text.j2 k L out dp (p : Int) (wrapT (inB L x.f0 y) o) (wrapD (inB L x.f0 y) d) x.f0 x.f1 x.f2 x.f3) r := by
      by_cases c : (p : Int) > 0
      · refine Ev.step (fun k => ?_) (e3 (x.f0 == 4) (by unfold bar; rw [if_pos c]))
        simp only [spec_l2text.j2]
        rw [if_pos c]
      · refine Ev.step (fun k => ?_) (e3 false (by unfold bar; rw [if_neg c]))
        simp only [spec_l2text.j2]
        rw [if_neg c]
    have e1 : ∀ b, b = inB L x.f0 y → Ev (fun k => spec_l2text.j1 k L out dp (p : Int) o d b x.f0 x.f1 x.f2 x.f3) r := by
      intro b hb
      refine Ev.step (fun k => ?_) e2
      simp only [spec_l2text.j1]
      rw [← hb]
      unfold wrapT wrapD
      cases b with
      | true => rw [if_pos rfl, if_pos (by omega), if_pos (by rw [ByteArray.size_append]; show 1 + o.size + 1 ≤ _; omega), if_pos rfl, if_pos rfl, wrap_id (n := d + 1) (by omega) (by omega)]
      | false => rw [if_neg (by simp), if_neg (by simp), if_neg (by simp)]
    have e0 : Ev (fun k => some (spec_l2text.f k L (y : Int), spec_l2text.j1 k L out dp (p : Int) o d (inB L x.f0 y) x.f0 x.f1 x.f2 x.f3)) (some (o, d), some r) := ev_use0 ek (e1 _ rfl) (fun k g1 g2 => by rw [g1, g2])
    refine ev_use e0 (Ev.now ()) (fun k g _ => ?_)
    simp only [Option.some.injEq, Prod.mk.injEq] at g
    simp only [spec_l2text.l0]
    rw [if_pos (by omega), if_pos (by omega), rd_get _ p hp, hy, g.1, Option.bind_some, if_neg hneg, if_pos (by omega), if_pos (by omega)]
    have g2 := g.2
    unfold inB at g2
    by_cases c4 : (rd_T39 L (y : Int)).f0 = 4
    · rw [if_pos c4] at g2 ⊢
      exact g2
    · rw [if_neg c4] at g2 ⊢
      by_cases c3 : (rd_T39 L (y : Int)).f0 = 3
      · rw [if_pos c3] at g2 ⊢
        exact g2
      · rw [if_neg c3] at g2 ⊢
        exact g2
/-- What stands behind the last kid. -/
def mark (a : Int) : ByteArray := if a = 5 then (⟨#[42]⟩ : ByteArray) else if a = 6 then (⟨#[43]⟩ : ByteArray) else if a = 7 then (⟨#[63]⟩ : ByteArray) else (⟨#[]⟩ : ByteArray)
theorem mark_size (a : Int) : (mark a).size ≤ 1 := by
  unfold mark
  split
  · decide
  · split
    · decide
    · split
      · decide
      · decide
theorem app_nil (s : ByteArray) : s ++ (⟨#[]⟩ : ByteArray) = s := ba_ext (by simp)
theorem impl_end (x : S39) (hx : 3 ≤ x.f0 ∧ x.f0 ≤ 7) (out : ByteArray) (dp : Int) (ho : out.size ≤ 200) : Ev (fun k => impl_reText.l0 k L out dp x.f3 (x.f3.length : Int) (x.f3.length : Int) x.f0 x.f1 x.f2 x.f3) (out ++ mark x.f0, dp, true) := by
  have wr : ∀ n : Int, 0 ≤ n → n ≤ 10 → wrap64 n = n := fun n h0 h1 => wrap_id (by omega) (by omega)
  have one : ∀ (a m : Int) (c : ByteArray), x.f0 = a → a - 5 = m → 0 ≤ m → m ≤ 2 → mark x.f0 = c → c.size = 1 → (⟨#[42, 43, 63]⟩ : ByteArray).extract m.toNat (m + 1).toNat = c → Ev (fun k => impl_reText.l0 k L out dp x.f3 (x.f3.length : Int) (x.f3.length : Int) x.f0 x.f1 x.f2 x.f3) (out ++ mark x.f0, dp, true) := by
    intro a m c ha hm h0 h1 hc hz he
    refine Ev.step (f := fun _ => some _) (fun k => ?_) (Ev.now _)
    simp only [impl_reText.l0]
    rw [if_neg (by omega), hc, ha, if_pos (by omega), hm, wr m (by omega) (by omega), wr (m + 1) (by omega) (by omega), if_pos (by omega), if_pos (by omega), if_pos (by omega), he, if_pos (by omega)]
  by_cases c5 : x.f0 = 5
  · exact one 5 0 (⟨#[42]⟩ : ByteArray) c5 (by omega) (by omega) (by omega) (by unfold mark; rw [if_pos c5]) rfl (by decide)
  · by_cases c6 : x.f0 = 6
    · exact one 6 1 (⟨#[43]⟩ : ByteArray) c6 (by omega) (by omega) (by omega) (by unfold mark; rw [if_neg c5, if_pos c6]) rfl (by decide)
    · by_cases c7 : x.f0 = 7
      · exact one 7 2 (⟨#[63]⟩ : ByteArray) c7 (by omega) (by omega) (by omega) (by unfold mark; rw [if_neg c5, if_neg c6, if_pos c7]) rfl (by decide)
      · refine Ev.step (f := fun _ => some _) (fun k => ?_) (Ev.now _)
        simp only [impl_reText.l0]
        rw [if_neg (by omega), if_neg (by omega)]
        unfold mark
        rw [if_neg c5, if_neg c6, if_neg c7, app_nil]
theorem spec_end (x : S39) (out : ByteArray) (dp : Int) (ho : out.size ≤ 6000000000000) :
    Ev (fun k => spec_l2text.l0 k L out dp (x.f3.length : Int) x.f0 x.f1 x.f2 x.f3) (if dp > 20 then ((⟨#[]⟩ : ByteArray), -1) else if ((out ++ mark x.f0).size : Int) > 200 then ((⟨#[]⟩ : ByteArray), -1) else (out ++ mark x.f0, dp)) := by
  refine Ev.step (f := fun _ => some _) (fun k => ?_) (Ev.now _)
  simp only [spec_l2text.l0]
  rw [if_neg (by omega)]
  have fin : ∀ t : ByteArray, (if dp > 20 then some ((⟨#[]⟩ : ByteArray), (-1 : Int)) else if (t.size : Int) > 200 then some ((⟨#[]⟩ : ByteArray), (-1 : Int)) else some (t, dp)) = some (if dp > 20 then ((⟨#[]⟩ : ByteArray), -1) else if (t.size : Int) > 200 then ((⟨#[]⟩ : ByteArray), -1) else (t, dp)) := by
    intro t
    split
    · rfl
    · split
      · rfl
      · rfl
  unfold mark
  by_cases c5 : x.f0 = 5
  · rw [if_pos c5, if_pos c5, if_pos (by omega), fin]
  · rw [if_neg c5, if_neg c5]
    by_cases c6 : x.f0 = 6
    · rw [if_pos c6, if_pos c6, if_pos (by omega), fin]
    · rw [if_neg c6, if_neg c6]
      by_cases c7 : x.f0 = 7
      · rw [if_pos c7, if_pos c7, if_pos (by omega), fin]
      · rw [if_neg c7, if_neg c7, app_nil, fin]
theorem mx_le {a b c : Int} : mx a b ≤ c ↔ a ≤ c ∧ b ≤ c := by
  unfold mx
  split <;> omega
theorem wrapD_le (b : Bool) (d : Int) : d ≤ wrapD b d ∧ wrapD b d ≤ d + 1 := by
  unfold wrapD
  split <;> omega
section
variable {L}
include hL hs
/-- The model's from any place on; what has grown too long is not taken. -/
theorem spec_any (i : Nat) (hi : i < L.length) (hx : 3 ≤ L[i].f0 ∧ L[i].f0 ≤ 7) (hn : ∀ y, y < i → NodeOk L y) (hk : ∀ y ∈ L[i].f3, 0 ≤ y ∧ y < i) : ∀ (d p : Nat) (out : ByteArray) (dp : Int), p + d = L[i].f3.length → out.size ≤ 300 + p * 5000000 → 0 ≤ dp → dp ≤ 21 →
    ∃ (s : ByteArray) (e : Int), Ev (fun k => spec_l2text.l0 k L out dp (p : Int) L[i].f0 L[i].f1 L[i].f2 L[i].f3) (s, e) ∧ s.size ≤ 200 ∧ -1 ≤ e ∧ e ≤ 20 ∧ (200 < out.size → e < 0) := by
  have _hL := hL
  have hkl := (hs _ (List.getElem_mem hi)).2
  intro d
  induction d with
  | zero =>
    intro p out dp h ho h0 h1
    have hb200 : p * 5000000 ≤ 1048576 * 5000000 := Nat.mul_le_mul_right _ (by omega)
    obtain rfl : p = L[i].f3.length := by omega
    have e := spec_end L L[i] out dp (by omega)
    have hz : (out ++ mark L[i].f0).size = out.size + (mark L[i].f0).size := ByteArray.size_append
    by_cases c1 : dp > 20
    · rw [if_pos c1] at e
      exact ⟨_, _, e, by decide, by omega, by omega, fun _ => by omega⟩
    · rw [if_neg c1] at e
      by_cases c2 : ((out ++ mark L[i].f0).size : Int) > 200
      · rw [if_pos c2] at e
        exact ⟨_, _, e, by decide, by omega, by omega, fun _ => by omega⟩
      · rw [if_neg c2] at e
        exact ⟨_, _, e, by omega, by omega, by omega, fun z => by omega⟩
  | succ d ih =>
    intro p out dp h ho h0 h1
    have hp : p < L[i].f3.length := by omega
    obtain ⟨hy0, hy1⟩ := hk _ (List.getElem_mem hp)
    obtain ⟨y, hy⟩ := Int.eq_ofNat_of_zero_le hy0
    obtain ⟨o, d', ok, s, e, _, es, _, _, _, hss, he1, he2, _, _⟩ := hn y (by omega)
    by_cases hneg : e < 0
    · exact ⟨_, _, spec_round L L[i] p y hp hkl hy (by omega) out dp ho s e hss he1 he2 es _ ⟨fun z => absurd z (by omega), fun _ => rfl⟩, by decide, by omega, by omega, fun _ => by omega⟩
    · have wz := wrapT_size (inB L L[i].f0 y) s
      have jz := join_size L[i].f0 p out (wrapT (inB L L[i].f0 y) s)
      have wd := wrapD_le (inB L L[i].f0 y) e
      obtain ⟨s2, e2, ev, q1, q2, q3, q4⟩ := ih (p + 1) (join L[i].f0 p out (wrapT (inB L L[i].f0 y) s)) (mx dp (wrapD (inB L L[i].f0 y) e)) (by omega) (by omega) (by unfold mx; split <;> omega) (mx_le.2 (by omega))
      exact ⟨s2, e2, spec_round L L[i] p y hp hkl hy (by omega) out dp ho s e hss he1 he2 es _ ⟨fun _ => ev, fun z => absurd z hneg⟩, q1, q2, q3, fun z => q4 (by omega)⟩
/-- Both sides from the same place on. -/
theorem both_any (i : Nat) (hi : i < L.length) (hx : 3 ≤ L[i].f0 ∧ L[i].f0 ≤ 7) (hn : ∀ y, y < i → NodeOk L y) (hk : ∀ y ∈ L[i].f3, 0 ≤ y ∧ y < i) : ∀ (d p : Nat) (out : ByteArray) (dp : Int), p + d = L[i].f3.length → out.size ≤ 200 → 0 ≤ dp → dp ≤ i →
    ∃ (o : ByteArray) (dd : Int) (ok : Bool), Ev (fun k => impl_reText.l0 k L out dp L[i].f3 (L[i].f3.length : Int) (p : Int) L[i].f0 L[i].f1 L[i].f2 L[i].f3) (o, dd, ok) ∧ o.size ≤ 4000000 ∧ 0 ≤ dd ∧ dd ≤ i ∧ (20 < dp → ¬ good o dd ok) ∧
      (dp ≤ 21 → ∃ (s : ByteArray) (e : Int), Ev (fun k => spec_l2text.l0 k L out dp (p : Int) L[i].f0 L[i].f1 L[i].f2 L[i].f3) (s, e) ∧ s.size ≤ 200 ∧ -1 ≤ e ∧ e ≤ 20 ∧ (good o dd ok → e = dd ∧ s = o) ∧ (¬ good o dd ok → e < 0)) := by
  have hkl := (hs _ (List.getElem_mem hi)).2
  intro d
  induction d with
  | zero =>
    intro p out dp h ho h0 h1
    obtain rfl : p = L[i].f3.length := by omega
    have mz := mark_size L[i].f0
    have hz : (out ++ mark L[i].f0).size = out.size + (mark L[i].f0).size := ByteArray.size_append
    refine ⟨_, _, _, impl_end L L[i] hx out dp ho, by omega, h0, h1, fun z g => by have := g.2.2; omega, fun hdp => ?_⟩
    have e := spec_end L L[i] out dp (by omega)
    by_cases c1 : dp > 20
    · rw [if_pos c1] at e
      exact ⟨_, _, e, by decide, by omega, by omega, fun g => by have := g.2.2; omega, fun _ => by omega⟩
    · rw [if_neg c1] at e
      by_cases c2 : ((out ++ mark L[i].f0).size : Int) > 200
      · rw [if_pos c2] at e
        exact ⟨_, _, e, by decide, by omega, by omega, fun g => by have := g.2.1; omega, fun _ => by omega⟩
      · rw [if_neg c2] at e
        exact ⟨_, _, e, by omega, by omega, by omega, fun _ => ⟨rfl, rfl⟩, fun g => absurd ⟨rfl, by omega, by omega⟩ g⟩
  | succ d ih =>
    intro p out dp h ho h0 h1
    have hp : p < L[i].f3.length := by omega
    obtain ⟨hy0, hy1⟩ := hk _ (List.getElem_mem hp)
    obtain ⟨y, hy⟩ := Int.eq_ofNat_of_zero_le hy0
    obtain ⟨o, d', ok, s, e, eo, es, hos, hd0, hd1, hss, he1, he2, hg, hb⟩ := hn y (by omega)
    have wz := wrapT_size (inB L L[i].f0 y) o
    have jz := join_size L[i].f0 p out (wrapT (inB L L[i].f0 y) o)
    have wd := wrapD_le (inB L L[i].f0 y) d'
    have wzs := wrapT_size (inB L L[i].f0 y) s
    have jzs := join_size L[i].f0 p out (wrapT (inB L L[i].f0 y) s)
    have wds := wrapD_le (inB L L[i].f0 y) e
    -- the model's side where this kid's text is not taken, or all is too long by now
    have bad : dp ≤ 21 → (e < 0 ∨ 200 < (join L[i].f0 p out (wrapT (inB L L[i].f0 y) s)).size) → ∃ (s : ByteArray) (e : Int), Ev (fun k => spec_l2text.l0 k L out dp (p : Int) L[i].f0 L[i].f1 L[i].f2 L[i].f3) (s, e) ∧ s.size ≤ 200 ∧ -1 ≤ e ∧ e ≤ 20 ∧ e < 0 := by
      intro hdp hc
      by_cases hneg : e < 0
      · exact ⟨_, _, spec_round L L[i] p y hp hkl hy (by omega) out dp (by omega) s e hss he1 he2 es _ ⟨fun z => absurd z (by omega), fun _ => rfl⟩, by decide, by omega, by omega, by omega⟩
      · obtain ⟨s2, e2, ev, q1, q2, q3, q4⟩ := spec_any hL hs i hi hx hn hk d (p + 1) (join L[i].f0 p out (wrapT (inB L L[i].f0 y) s)) (mx dp (wrapD (inB L L[i].f0 y) e)) (by omega) (by omega) (by unfold mx; split <;> omega) (mx_le.2 (by omega))
        exact ⟨s2, e2, spec_round L L[i] p y hp hkl hy (by omega) out dp (by omega) s e hss he1 he2 es _ ⟨fun _ => ev, fun z => absurd z hneg⟩, q1, q2, q3, q4 (by omega)⟩
    by_cases hc : ok = true ∧ (join L[i].f0 p out (wrapT (inB L L[i].f0 y) o)).size ≤ 200
    · obtain ⟨o2, dd, ok2, ev, z1, z2, z3, z4, z5⟩ := ih (p + 1) (join L[i].f0 p out (wrapT (inB L L[i].f0 y) o)) (mx dp (wrapD (inB L L[i].f0 y) d')) (by omega) hc.2 (by unfold mx; split <;> omega) (mx_le.2 (by omega))
      refine ⟨o2, dd, ok2, impl_round L L[i] i p y hp hkl hy (by omega) out dp ho o d' ok hos hd0 (by omega) eo _ ⟨fun _ => ev, fun z => absurd hc z⟩, z1, z2, z3, fun z => z4 (by unfold mx; split <;> omega), fun hdp => ?_⟩
      by_cases gk : good o d' ok
      · obtain ⟨g1, g2⟩ := hg gk
        subst g1 g2
        have hd20 := gk.2.2
        obtain ⟨s2, e2, ev2, q1, q2, q3, q4, q5⟩ := z5 (mx_le.2 (by omega))
        exact ⟨s2, e2, spec_round L L[i] p y hp hkl hy (by omega) out dp (by omega) s e hss he1 he2 es _ ⟨fun _ => ev2, fun z => absurd z (by omega)⟩, q1, q2, q3, q4, q5⟩
      · have hd20 : 20 < d' := by
          refine Classical.byContradiction fun z => gk ⟨hc.1, by omega, by omega⟩
        have ng := z4 (by unfold mx; split <;> omega)
        obtain ⟨s2, e2, ev2, q1, q2, q3, q4⟩ := bad hdp (by rcases hb gk with z | z <;> omega)
        exact ⟨s2, e2, ev2, q1, q2, q3, fun z => absurd z ng, fun _ => q4⟩
    · refine ⟨_, _, _, impl_round L L[i] i p y hp hkl hy (by omega) out dp ho o d' ok hos hd0 (by omega) eo _ ⟨fun z => absurd z hc, fun _ => rfl⟩, by decide, by omega, by omega, (fun _ g => by cases g.1), fun hdp => ?_⟩
      have hq : e < 0 ∨ 200 < (join L[i].f0 p out (wrapT (inB L L[i].f0 y) s)).size := by
        by_cases gk : good o d' ok
        · obtain ⟨g1, g2⟩ := hg gk
          rw [g2]
          refine .inr (Classical.byContradiction fun z => hc ⟨gk.1, by omega⟩)
        · rcases hb gk with z | z
          · exact .inl z
          · exact .inr (by omega)
      obtain ⟨s2, e2, ev2, q1, q2, q3, q4⟩ := bad hdp hq
      exact ⟨s2, e2, ev2, q1, q2, q3, fun z => (by cases z.1), fun _ => q4⟩
include hok
theorem node_all : ∀ a, a < L.length → NodeOk L a := by
  intro a
  induction a using Nat.strongRecOn with
  | _ a ih =>
    intro ha
    obtain ⟨hf, hk⟩ := hok a ha
    obtain ⟨hz, _⟩ := hs _ (List.getElem_mem ha)
    have rda := rd_I L a ha
    rcases hf with ⟨c0, cp, _, _⟩ | ⟨c12, _⟩ | ⟨c34, _⟩ | ⟨c567, _⟩
    · obtain ⟨v, e1, e2, e3⟩ := set_same L[a] hz cp
      refine ⟨v, 0, true, v, 0, ev_use e2 (Ev.now ()) (fun k g _ => ?_), ev_use e1 (Ev.now ()) (fun k g _ => ?_), e3, by omega, by omega, e3, by omega, by omega, fun _ => ⟨rfl, rfl⟩, fun g => .inr (Classical.byContradiction fun z => g ⟨rfl, by omega, by omega⟩)⟩
      · simp only [impl_reText.f]
        rw [if_pos (by omega), if_pos (by omega), rda, if_pos c0, g, Option.bind_some]
      · simp only [spec_l2text.f]
        rw [if_pos (by omega), if_pos (by omega), rda, if_pos c0, g, Option.bind_some]
    · rcases c12 with c1 | c2
      · refine ⟨(⟨#[94]⟩ : ByteArray), 0, true, (⟨#[94]⟩ : ByteArray), 0, Ev.step (f := fun _ => some _) (fun k => ?_) (Ev.now _), Ev.step (f := fun _ => some _) (fun k => ?_) (Ev.now _), by decide, by omega, by omega, by decide, by omega, by omega, fun _ => ⟨rfl, rfl⟩, fun g => absurd ⟨rfl, by decide, by omega⟩ g⟩
        · simp only [impl_reText.f]
          rw [if_pos (by omega), if_pos (by omega), rda, if_neg (by omega), if_pos c1]
        · simp only [spec_l2text.f]
          rw [if_pos (by omega), if_pos (by omega), rda, if_neg (by omega), if_pos c1]
      · refine ⟨(⟨#[36]⟩ : ByteArray), 0, true, (⟨#[36]⟩ : ByteArray), 0, Ev.step (f := fun _ => some _) (fun k => ?_) (Ev.now _), Ev.step (f := fun _ => some _) (fun k => ?_) (Ev.now _), by decide, by omega, by omega, by decide, by omega, by omega, fun _ => ⟨rfl, rfl⟩, fun g => absurd ⟨rfl, by decide, by omega⟩ g⟩
        · simp only [impl_reText.f]
          rw [if_pos (by omega), if_pos (by omega), rda, if_neg (by omega), if_neg (by omega), if_pos c2]
        · simp only [spec_l2text.f]
          rw [if_pos (by omega), if_pos (by omega), rda, if_neg (by omega), if_neg (by omega), if_pos c2]
    all_goals
      obtain ⟨o, dd, ok, e1, z1, z2, z3, _, z5⟩ := both_any hL hs a ha (by omega) (fun y hy => ih y hy (by omega)) hk L[a].f3.length 0 (⟨#[]⟩ : ByteArray) 0 (by omega) (by decide) (by omega) (by omega)
      obtain ⟨s, e, e2, q1, q2, q3, q4, q5⟩ := z5 (by omega)
      refine ⟨o, dd, ok, s, e, Ev.step (fun k => ?_) e1, Ev.step (fun k => ?_) e2, z1, z2, z3, by omega, q2, q3, q4, fun z => .inl (q5 z)⟩
      · simp only [impl_reText.f]
        rw [if_pos (by omega), if_pos (by omega), rda, if_neg (by omega), if_neg (by omega), if_neg (by omega)]
        rfl
      · simp only [spec_l2text.f]
        rw [if_pos (by omega), if_pos (by omega), rda, if_neg (by omega), if_neg (by omega), if_neg (by omega)]
        rfl
end
end
theorem text_same (L : List S39) (hL : L.length ≤ 1048576) (hs : ∀ x ∈ L, x.f2.size ≤ 1048576 ∧ x.f3.length ≤ 1048576) (hk : kidsN L ≤ 1048576) : ∃ v : ByteArray, Ev (fun k => impl_ReText.f k L) v ∧ Ev (fun k => spec_ReText.f k L) v := by
  obtain ⟨b, e1, e2, e3⟩ := ok_same L hL hs hk
  cases b with
  | false =>
    refine ⟨(⟨#[]⟩ : ByteArray), ev_use1 e1 (fun k g => ?_), ev_use1 e2 (fun k g => ?_)⟩
    · unfold impl_ReText.f
      rw [g, Option.bind_some, if_neg (by simp)]
    · unfold spec_ReText.f
      rw [g, Option.bind_some, if_neg (by simp)]
  | true =>
    obtain ⟨h1, h2, h3⟩ := e3 rfl
    obtain ⟨o, d, ok, s, e, f1, f2, z1, z2, z3, z4, z5, z6, z7, z8⟩ := node_all h2 h3 hs (L.length - 1) (by omega)
    have w1 : wrap64 ((L.length : Int) - 1) = ((L.length - 1 : Nat) : Int) := by
      rw [wrap_id (by omega) (by omega)]
      omega
    by_cases g : good o d ok
    · obtain ⟨g1, g2⟩ := z7 g
      refine ⟨o, ev_use0 e1 f1 (fun k q1 q2 => ?_), ev_use0 e2 f2 (fun k q1 q2 => ?_)⟩
      · unfold impl_ReText.f
        rw [q1, Option.bind_some, if_pos (rfl : true = true), w1, q2, Option.bind_some, if_pos g.1, if_neg (by have := g.2.2; show ¬ d > 20; omega), if_neg (by have := g.2.1; show ¬ (o.size : Int) > 200; omega)]
      · unfold spec_ReText.f
        rw [q1, Option.bind_some, if_pos (rfl : true = true), w1, q2, Option.bind_some, if_neg (by show ¬ e < 0; omega), if_neg (by have := g.2.1; rw [g2]; show ¬ (o.size : Int) > 200; omega), g2]
    · refine ⟨(⟨#[]⟩ : ByteArray), ev_use0 e1 f1 (fun k q1 q2 => ?_), ev_use0 e2 f2 (fun k q1 q2 => ?_)⟩
      · unfold impl_ReText.f
        rw [q1, Option.bind_some, if_pos (rfl : true = true), w1, q2, Option.bind_some]
        show (if ok = true then (if d > 20 then some (⟨#[]⟩ : ByteArray) else if (o.size : Int) > 200 then some (⟨#[]⟩ : ByteArray) else some o) else some (⟨#[]⟩ : ByteArray)) = _
        by_cases c1 : ok = true
        · rw [if_pos c1]
          by_cases c2 : d > 20
          · rw [if_pos c2]
          · rw [if_neg c2, if_pos (by
              refine Classical.byContradiction fun z => g ⟨c1, by omega, by omega⟩)]
        · rw [if_neg c1]
      · unfold spec_ReText.f
        rw [q1, Option.bind_some, if_pos (rfl : true = true), w1, q2, Option.bind_some]
        show (if e < 0 then some (⟨#[]⟩ : ByteArray) else if (s.size : Int) > 200 then some (⟨#[]⟩ : ByteArray) else some s) = _
        rcases z8 g with z | z
        · rw [if_pos z]
        · by_cases c : e < 0
          · rw [if_pos c]
          · rw [if_neg c, if_pos (by omega)]
end Go.Proofs.Ytmddcohelcciaaa.PFnExactReText
