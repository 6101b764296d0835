/- The parsers as functions, and what their small steps do to a state. -/
import Derived.Test.YtmddcohelcciaaaLFnExactReParseRaw
namespace Go.Proofs.Ytmddcohelcciaaa.PFnExactReParse.H
open Go.RowKit Go.Proofs.YtmddcohelcciaaaW.PrintWords Go.Proofs.YtmddcohelcciaaaW.PrintLast Go.Proofs.YtmddcohelcciaaaW.PrintMore
attribute [local go_sem] max2_int min2_int max_two min_two max_three min_three max_four min_four   -- for this text's walks alone
set_option linter.unusedVariables false
set_option linter.unusedSimpArgs false

def PI (P : Nat → Prop) (w0 W : World) (g : Nat) (s : ByteArray) (at_ deep : Int) (v : Value) (L : List S39) (wr : Bool) : Prop :=
  IsS55 w0 W g s at_ deep v wr ∧ Kd.S k39 39 W w0.heap.size (fun k => P k ∧ k ≠ g) v L
def PS (P : Nat → Prop) (w0 W : World) (g : Nat) (s : ByteArray) (at_ : Int) (v : Value) (L : List S39) (wr : Bool) : Prop :=
  IsS50 w0 W g s at_ v wr ∧ Kd.S k39 39 W w0.heap.size (fun k => P k ∧ k ≠ g) v L

section
variable {P P' S : Nat → Prop} {w0 w W W1 : World} {g : Nat} {s : ByteArray} {at_ at' deep deep' : Int} {v : Value} {L : List S39} {wr wr' : Bool}
theorem PI.mono (h : PI P w0 W g s at_ deep v L wr) (hp : ∀ k, P k → P' k) : PI P' w0 W g s at_ deep v L wr := ⟨h.1, Kd.S_mono h.2 (fun k hk => ⟨hp k hk.1, hk.2⟩)⟩
theorem PI.bound (h : PI P w0 W g s at_ deep v L wr) : PI (fun k => P k ∧ k < W.heap.size) w0 W g s at_ deep v L wr := ⟨h.1, Kd.S_mono (Kd.S_bound h.2) (fun k hk => ⟨⟨hk.1.1, hk.2.2.1⟩, hk.1.2⟩)⟩
theorem PI.below (h : PI P w0 W g s at_ deep v L wr) (hb : Below W.heap.size W W1) : PI P w0 W1 g s at_ deep v L wr := ⟨h.1.below hb, Kd.S_below h.2 hb⟩
theorem PI.alloc (h : PI P w0 W g s at_ deep v L wr) (o : Obj) : PI P w0 (W.alloc o) g s at_ deep v L wr := h.below (below_alloc (Below.refl _ _) o)
theorem PI.drewN (h : PI P w0 W g s at_ deep v L wr) (m : Nat) : PI P w0 (W.drewN m) g s at_ deep v L wr := ⟨h.1.drewN m, Kd.S_drewN h.2 m⟩
theorem PI.drew (h : PI P w0 W g s at_ deep v L wr) : PI P w0 W.drew g s at_ deep v L wr := ⟨h.1.drew, Kd.S_drew h.2⟩
theorem PI.set1 (h : PI P w0 W g s at_ deep v L wr) (x : Int) : PI P w0 (W.setCell ⟨g, 1, none⟩ (.int .i64 x)) g s x deep v L wr := ⟨h.1.set_1 x, Kd.S_far h.2 (fun _ hk => hk.2) _⟩
theorem PI.set2 (h : PI P w0 W g s at_ deep v L wr) (x : Int) : PI P w0 (W.setCell ⟨g, 2, none⟩ (.int .i64 x)) g s at_ x v L wr := ⟨h.1.set_2 x, Kd.S_far h.2 (fun _ hk => hk.2) _⟩
theorem PI.set4 (h : PI P w0 W g s at_ deep v L wr) (x : Bool) : PI P w0 (W.setCell ⟨g, 4, none⟩ (.bool x)) g s at_ deep v L x := ⟨h.1.set_4 x, Kd.S_far h.2 (fun _ hk => hk.2) _⟩
theorem PI.far (h : PI P w0 W g s at_ deep v L wr) {p : Addr} (hp : ¬ P p.block) (hg : g ≠ p.block) (u : Value) : PI P w0 (W.setCell p u) g s at_ deep v L wr :=
  ⟨⟨blk_far h.1.1 hg u, h.1.2⟩, Kd.S_far h.2 (fun k hk e => hp (e ▸ hk.1)) u⟩
theorem PI.keep (h : PI P w0 W g s at_ deep v L wr) (hi : IsS55 w0 W1 g s at' deep' v wr') (hk : KeepBut W W1 g none) : PI P w0 W1 g s at' deep' v L wr' := ⟨hi, Kd.S_keep h.2 hk (fun _ hk => hk.2)⟩
theorem PI.kept (h : PI P w0 W g s at_ deep v L wr) (hk : Kept W W1 S) (hg : ¬ S g) (hp : ∀ k, P k → ¬ S k) : PI P w0 W1 g s at_ deep v L wr := ⟨⟨blk_kept h.1.1 hk hg, h.1.2⟩, Kd.S_kept h.2 hk (fun k hk => hp k hk.1)⟩
theorem PI.lt (h : PI P w0 W g s at_ deep v L wr) : g < W.heap.size := h.1.lt
theorem PI.ge (h : PI P w0 W g s at_ deep v L wr) : w0.heap.size ≤ g := h.1.ge
theorem PS.mono (h : PS P w0 W g s at_ v L wr) (hp : ∀ k, P k → P' k) : PS P' w0 W g s at_ v L wr := ⟨h.1, Kd.S_mono h.2 (fun k hk => ⟨hp k hk.1, hk.2⟩)⟩
theorem PS.bound (h : PS P w0 W g s at_ v L wr) : PS (fun k => P k ∧ k < W.heap.size) w0 W g s at_ v L wr := ⟨h.1, Kd.S_mono (Kd.S_bound h.2) (fun k hk => ⟨⟨hk.1.1, hk.2.2.1⟩, hk.1.2⟩)⟩
theorem PS.below (h : PS P w0 W g s at_ v L wr) (hb : Below W.heap.size W W1) : PS P w0 W1 g s at_ v L wr := ⟨h.1.below hb, Kd.S_below h.2 hb⟩
theorem PS.alloc (h : PS P w0 W g s at_ v L wr) (o : Obj) : PS P w0 (W.alloc o) g s at_ v L wr := h.below (below_alloc (Below.refl _ _) o)
theorem PS.drewN (h : PS P w0 W g s at_ v L wr) (m : Nat) : PS P w0 (W.drewN m) g s at_ v L wr := ⟨h.1.drewN m, Kd.S_drewN h.2 m⟩
theorem PS.drew (h : PS P w0 W g s at_ v L wr) : PS P w0 W.drew g s at_ v L wr := ⟨h.1.drew, Kd.S_drew h.2⟩
theorem PS.set1 (h : PS P w0 W g s at_ v L wr) (x : Int) : PS P w0 (W.setCell ⟨g, 1, none⟩ (.int .i64 x)) g s x v L wr := ⟨h.1.set_1 x, Kd.S_far h.2 (fun _ hk => hk.2) _⟩
theorem PS.set3 (h : PS P w0 W g s at_ v L wr) (x : Bool) : PS P w0 (W.setCell ⟨g, 3, none⟩ (.bool x)) g s at_ v L x := ⟨h.1.set_3 x, Kd.S_far h.2 (fun _ hk => hk.2) _⟩
theorem PS.far (h : PS P w0 W g s at_ v L wr) {p : Addr} (hp : ¬ P p.block) (hg : g ≠ p.block) (u : Value) : PS P w0 (W.setCell p u) g s at_ v L wr :=
  ⟨⟨blk_far h.1.1 hg u, h.1.2⟩, Kd.S_far h.2 (fun k hk e => hp (e ▸ hk.1)) u⟩
theorem PS.keep (h : PS P w0 W g s at_ v L wr) (hi : IsS50 w0 W1 g s at' v wr') (hk : KeepBut W W1 g none) : PS P w0 W1 g s at' v L wr' := ⟨hi, Kd.S_keep h.2 hk (fun _ hk => hk.2)⟩
theorem PS.kept (h : PS P w0 W g s at_ v L wr) (hk : Kept W W1 S) (hg : ¬ S g) (hp : ∀ k, P k → ¬ S k) : PS P w0 W1 g s at_ v L wr := ⟨⟨blk_kept h.1.1 hk hg, h.1.2⟩, Kd.S_kept h.2 hk (fun k hk => hp k hk.1)⟩
theorem PS.lt (h : PS P w0 W g s at_ v L wr) : g < W.heap.size := h.1.lt
theorem PS.ge (h : PS P w0 W g s at_ v L wr) : w0.heap.size ≤ g := h.1.ge
/-- What the store of a grown slice leaves. -/
theorem PI.put3 {v1 : Value} {L1 : List S39} (h : IsS55 w0 W g s at_ deep v wr) (hs : Kd.S k39 39 W w0.heap.size (fun k => P k ∧ k ≠ g) v1 L1) : PI P w0 (W.setCell ⟨g, 3, none⟩ v1) g s at_ deep v1 L1 wr := ⟨h.set_3 v1, Kd.S_far hs (fun _ hk => hk.2) _⟩
theorem PS.put2 {v1 : Value} {L1 : List S39} (h : IsS50 w0 W g s at_ v wr) (hs : Kd.S k39 39 W w0.heap.size (fun k => P k ∧ k ≠ g) v1 L1) : PS P w0 (W.setCell ⟨g, 2, none⟩ v1) g s at_ v1 L1 wr := ⟨h.set_2 v1, Kd.S_far hs (fun _ hk => hk.2) _⟩
end
def PostI (P : Nat → Prop) (w0 w : World) (g : Nat) (s : ByteArray) (at_ deep : Int) (L : List S39) (wr : Bool) (w' : World) : Prop :=
  (∃ v, PI P w0 w' g s at_ deep v L wr) ∧ Kept w w' (fun k => k = g ∨ P k) ∧ Below w0.heap.size w0 w'
def PostS (P : Nat → Prop) (w0 w : World) (g : Nat) (s : ByteArray) (at_ : Int) (L : List S39) (wr : Bool) (w' : World) : Prop :=
  (∃ v, PS P w0 w' g s at_ v L wr) ∧ Kept w w' (fun k => k = g ∨ P k) ∧ Below w0.heap.size w0 w'
theorem Kept.of_callee {P : Nat → Prop} {g : Nat} {w W W1 : World} (h : Kept w W (fun k => k = g ∨ P k)) (k : KeepBut W W1 g none) : Kept w W1 (fun k => k = g ∨ P k) := h.of_keep k (.inl (.inl rfl))
theorem Kept.go {P P' : Nat → Prop} {g : Nat} {w W W1 : World} (h : Kept w W (fun k => k = g ∨ P k)) (k : Kept W W1 (fun k => k = g ∨ P' k)) (hp : ∀ k, P' k → P k) : Kept w W1 (fun k => k = g ∨ P k) :=
  h.then_ k (fun k hk => .inl (hk.elim .inl (fun h => .inr (hp k h))))
theorem Kept.setG {P : Nat → Prop} {g j : Nat} {w W : World} (h : Kept w W (fun k => k = g ∨ P k)) (u : Value) : Kept w (W.setCell ⟨g, j, none⟩ u) (fun k => k = g ∨ P k) := h.setCell (.inl (.inl rfl)) u

theorem info39 : (Try.prog.info? 39).map (fun i => (i.zero, i.size, i.bytes)) = some (some (.agg #[.int .i64 0, .bool false, .string ⟨#[]⟩, .slice none 0 0]), 4, 56) := by kernel_rfl
theorem cell_alloc_lt' {W : World} {o : Obj} {a : Addr} {v : Value} (h : W.cell? a = some v) : (W.alloc o).cell? a = some v := (World.cell?_alloc_lt _ _ _ (World.block_lt_of_cell? W a h)).trans h

def impl_add.T1 : Bool × List (List Nat × List Nat) := (true, [([], []), ([], []), ([1], [1]), ([2], [2]), ([3], [3]), ([], []), ([5], [5]), ([4, 6], [4, 6]), ([0, 0, 1, 2, 3, 4, 5, 6, 7], [0]), ([8, 0, 1, 2, 3, 4, 5, 6, 7], [8]), ([9, 7, 7, 0, 1, 2, 3, 4, 5, 6, 7], [7, 9])])
def impl_add.B1 : List Nat := [0, 0, 2, 6, 14, 0, 32, 126, 255, 511, 1023]
theorem impl_add.tab1 : rtab .any (opsOf Try.f51 1) = impl_add.T1 := by kernel_rfl
theorem impl_add.bits1 : waitsOk impl_add.T1.2 impl_add.B1 = true := by kernel_rfl
set_option maxHeartbeats 8000000 in
set_option maxRecDepth 100000 in
theorem impl_add.calls (P okp : Nat → Prop) (w0 w : World) (g : Nat) (s : ByteArray) (at_ deep : Int) (v : Value) (L : List S39) (wr : Bool) (x : S39) (kv : Value)
    (hI : PI (fun k => P k ∧ ¬ okp k) w0 w g s at_ deep v L wr) (hR : (Kd.int .i64).R 3 w w0.heap.size okp kv x.f3) (hokp : ∀ k, okp k → P k ∧ k ≠ g) (hB : Below w0.heap.size w0 w)
    (hP : ∀ k, w.heap.size ≤ k → P k) (hl : L.length < 100000) :
    Calls Try.prog 51 #[.pointer (some ⟨g, 0, none⟩), .agg #[.int .i64 x.f0, .bool x.f1, .string x.f2, kv]] w fun e w' => e = .returned (.int .i64 L.length) ∧ PostI P w0 w g s at_ deep (L ++ [x]) (wr || decide ((200 : Int) < (L.length : Int) + 1)) w' := by
  have hu25 := Try.underlying25
  have hu39 := Try.underlying39
  obtain ⟨A, c, rfl⟩ := Kd.S_slice hI.2
  obtain ⟨v, hv⟩ : ∃ v, Value.slice A L.length c = v := ⟨_, rfl⟩
  rw [hv] at hI
  have hvo := fun k => Kd.S_lt hI.2 k
  have HI := Aside0.mk hI
  have HR := Aside0.mk hR
  have HB := Aside0.mk hB
  have HK := Aside0.mk (Kept.refl w (fun k => k = g ∨ P k))
  clear hI hR hB
  go_enter Try.func51, Try.ntmps51
  go_upto_region 1 with (first | ((with_reducible refine gate_dst (N := 3) rfl ?_); (try (refine gate_guard (by rfl) ?_; dsimp only)); refine box_event ?hg (N := 3) ?hd (cs := #[.int .i64 x.f0, .bool x.f1, .string x.f2, kv]) (t := 39) ?hr ?_; (case hd => rfl); (case hg => rfl); (case hr => first | (go_simp; done) | (go_simp; rfl)); intro gb hg w4 hbox hb; have hgb := Aside0.mk (show some gb ≠ v.ownBlock from fun e => by have := hvo gb e.symm; omega); clear hg))
  have n0_ := Aside0.mk ((HI.out.below hb).drew)
  have n1_ := Aside0.mk (Kd.R_drew (Kd.R_below HR.out hb))
  have n2_ := Aside0.mk (below_drew1 (below_step HB.out hb))
  have n3_ := Aside0.mk (Kept.drew (HK.out.below hb))
  have n4_ := Aside0.mk (blk_drew hbox)
  have hsz : w0.heap.size ≤ w4.drew.heap.size := n2_.out.size
  clear HI HR HB HK hb hbox
  have HI := n0_
  have HR := n1_
  have HB := n2_
  have HK := n3_
  have BK := n4_
  clear n0_ n1_ n2_ n3_ n4_
  refine start_ (n := 11) (S := fun w' => w'.cell? ⟨g, 3, none⟩ = some v ∧ w'.cell? ⟨gb, 0, none⟩ = some (.int .i64 x.f0) ∧ w'.cell? ⟨gb, 1, none⟩ = some (.bool x.f1) ∧ w'.cell? ⟨gb, 2, none⟩ = some (.string x.f2) ∧ w'.cell? ⟨gb, 3, none⟩ = some kv) (ds := [10]) #[false, false, false, false, false, false, false, false, false, false, false] (by kernel_rfl) rfl rfl ⟨cellS55_3 HI.out.1.1, (blk_cell BK.out 0).trans rfl, (blk_cell BK.out 1).trans rfl, (blk_cell BK.out 2).trans rfl, (blk_cell BK.out 3).trans rfl⟩ (fun hHeld => ?_)
  refine with_tabW impl_add.tab1 impl_add.bits1 (fun HT_ HW_ => ?_)
  generalize w4.drew = w5 at HI HR HB HK BK hHeld hsz ⊢
  refine pure_ (i := 0) (N := some 5) (v := ?_) (a' := ?_) #[true, false, false, false, false, false, false, false, false, false, false] rfl rfl (any_of HT_.out (by kernel_rfl)) (fun _ _ _ h => h) (Or.inl ⟨by rfl, ?_⟩) ?_ ?_
  rotate_left
  · intro w'
    go_simp
    with_reducible rfl
  rotate_left
  · simp only [Act.put, List.setIfInBounds_toArray, List.set_cons_zero, List.set_cons_succ, i64_w, i32_w]
    rfl
  refine pure_ (i := 1) (N := some 6) (v := ?_) (a' := ?_) #[true, true, false, false, false, false, false, false, false, false, false] rfl rfl (any_of HT_.out (by kernel_rfl)) (fun _ _ _ h => h) (Or.inl ⟨by rfl, ?_⟩) ?_ ?_
  rotate_left
  · intro w'
    go_simp
    with_reducible rfl
  rotate_left
  · simp only [Act.put, List.setIfInBounds_toArray, List.set_cons_zero, List.set_cons_succ, i64_w, i32_w]
    rfl
  refine pure_ (i := 2) (N := some 7) (v := ?_) (a' := ?_) #[true, true, true, false, false, false, false, false, false, false, false] rfl rfl (any_of HT_.out (by kernel_rfl)) (fun _ _ _ h => h) (Or.inl ⟨by rfl, ?_⟩) ?_ ?_
  rotate_left
  · intro w'
    go_simp
    with_reducible rfl
  rotate_left
  · simp only [Act.put, List.setIfInBounds_toArray, List.set_cons_zero, List.set_cons_succ, i64_w, i32_w]
    rfl
  refine pure_ (i := 3) (N := some 8) (v := ?_) (a' := ?_) #[true, true, true, true, false, false, false, false, false, false, false] rfl rfl (any_of HT_.out (by kernel_rfl)) (fun _ _ _ h => h) (Or.inl ⟨by rfl, ?_⟩) ?_ ?_
  rotate_left
  · intro w'
    go_simp
    with_reducible rfl
  rotate_left
  · simp only [Act.put, List.setIfInBounds_toArray, List.set_cons_zero, List.set_cons_succ, i64_w, i32_w]
    rfl
  refine take_ (i := 4) (N := some 9) (v := ?_) (a' := ?_) #[true, true, true, true, true, false, false, false, false, false, false] rfl rfl (take_ofW HT_.out HW_.out (by kernel_rfl)) (fun _ _ _ h => h) (Or.inl ⟨by rfl, ?_⟩) hHeld ?_ ?_
  rotate_left
  · rintro w' ⟨s0, s1, s2, s3, s4⟩
    go_simp
    with_reducible rfl
  rotate_left
  · simp only [Act.put, List.setIfInBounds_toArray, List.set_cons_zero, List.set_cons_succ, i64_w, i32_w]
    rfl
  refine take_ (i := 5) (N := some 10) (v := ?_) (a' := ?_) #[true, true, true, true, true, true, false, false, false, false, false] rfl rfl (take_ofW HT_.out HW_.out (by kernel_rfl)) (fun _ _ _ h => h) (Or.inl ⟨by rfl, ?_⟩) hHeld ?_ ?_
  rotate_left
  · rintro w' ⟨s0, s1, s2, s3, s4⟩
    go_simp
    with_reducible rfl
  rotate_left
  · simp only [Act.put, List.setIfInBounds_toArray, List.set_cons_zero, List.set_cons_succ, i64_w, i32_w]
    rfl
  refine one_ (i := 6) (N := some 11) #[true, true, true, true, true, true, true, false, false, false, false] rfl rfl (one_of HT_.out (by kernel_rfl)) (by decide) (fun K hK => ?_)
  refine value_ (w1 := ?_) (v := ?_) (by rfl) rfl ?_ ?_
  rotate_left 2
  · go_simp
    constructor
    · rfl
    · rfl
  refine hK.out _ _ ⟨(cell_alloc_lt' hHeld.1), (cell_alloc_lt' hHeld.2.1), (cell_alloc_lt' hHeld.2.2.1), (cell_alloc_lt' hHeld.2.2.2.1), (cell_alloc_lt' hHeld.2.2.2.2)⟩ (fun hHeld => ?_)
  clear hK K
  refine norm_ (a' := ?_) ?_ ?_
  rotate_left
  · show Act.put _ (some 11) _ = _
    simp only [Act.put, List.setIfInBounds_toArray, List.set_cons_zero, List.set_cons_succ, i64_w, i32_w]
    rfl
  refine one_ (i := 7) (N := some 12) #[true, true, true, true, true, true, true, true, false, false, false] rfl rfl (one_of HT_.out (by kernel_rfl)) (by decide) (fun K hK => ?_)
  refine Kd.S_append_step k39 (w0 := w0) w0.heap.size (by rfl) (.tmp 9) (.tmp 11) 25 39 (.agg #[.int .i64 0, .bool false, .string ⟨#[]⟩, .slice none 0 0]) 56 rfl Try.underlying25 info39 rfl (by decide) (by omega) v L x [.int .i64 x.f0, .bool x.f1, .string x.f2, kv] (fun k => P k ∧ k ≠ g) okp rfl rfl ?aP ?aK ?aF ?aO ?aB ?aS ?aL ?_
  case aP => exact k39_mkM _ _ _ _ HR.out
  case aK => exact fun k hk => ⟨hokp k hk, fun e => (Kd.S_R HI.out.2).1 k e.symm |>.1.2 hk⟩
  case aF => exact fun k hk => ⟨hP k (Nat.le_trans HK.out.1 hk), fun e => by have := HI.out.lt; omega⟩
  case aO => exact Kd.S_mono HI.out.2 (fun k hk => ⟨⟨hk.1.1, hk.2⟩, hk.1.2⟩)
  case aB => exact HB.out
  case aS => exact hsz
  case aL => omega
  intro v1 w6 ho hb hg2 hat
  obtain ⟨A1, c1, rfl⟩ := Kd.S_slice ho
  have hvg : some g ≠ v.ownBlock := fun e => ((Kd.S_R HI.out.2).1 g e.symm).2 rfl
  have n0_ := Aside0.mk (HI.out.1.grown hg2 hvg)
  have n1_ := Aside0.mk ho
  have n2_ := Aside0.mk hb
  have n3_ := Aside0.mk (Kept.of_grown hg2 HK.out (fun k hk => .inl (.inr ((Kd.S_R HI.out.2).1 k hk).1.1)))
  have n4_ := Aside0.mk (blk_grown BK.out hg2 hgb.out)
  clear HI HB HK BK HR
  have HI := n0_
  have HS := n1_
  have HB := n2_
  have HK := n3_
  have BK := n4_
  clear n0_ n1_ n2_ n3_ n4_ ho hb hg2 hat
  refine hK.out _ _ ⟨cellS55_3 HI.out.1, (blk_cell BK.out 0).trans rfl, (blk_cell BK.out 1).trans rfl, (blk_cell BK.out 2).trans rfl, (blk_cell BK.out 3).trans rfl⟩ (fun hHeld => ?_)
  clear hK K
  refine norm_ (a' := ?_) ?_ ?_
  rotate_left
  · show Act.put _ (some 12) _ = _
    simp only [Act.put, List.setIfInBounds_toArray, List.set_cons_zero, List.set_cons_succ, i64_w, i32_w]
    rfl
  refine pure_ (i := 8) (N := some 13) (v := ?_) (a' := ?_) #[true, true, true, true, true, true, true, true, true, false, false] rfl rfl (any_of HT_.out (by kernel_rfl)) (fun _ _ _ h => h) (Or.inl ⟨by rfl, ?_⟩) ?_ ?_
  rotate_left
  · intro w'
    go_simp
    with_reducible rfl
  rotate_left
  · simp only [Act.put, List.setIfInBounds_toArray, List.set_cons_zero, List.set_cons_succ, i64_w, i32_w]
    rfl
  refine pure_ (i := 9) (N := some 14) (v := ?_) (a' := ?_) #[true, true, true, true, true, true, true, true, true, true, false] rfl rfl (any_of HT_.out (by kernel_rfl)) (fun _ _ _ h => h) (Or.inl ⟨by rfl, ?_⟩) ?_ ?_
  rotate_left
  · intro w'
    go_simp
    with_reducible rfl
  rotate_left
  · simp only [Act.put, List.setIfInBounds_toArray, List.set_cons_zero, List.set_cons_succ, i64_w, i32_w]
    rfl
  refine last_ (i := 10) (N := none) #[true, true, true, true, true, true, true, true, true, true, true] rfl rfl (one_of HT_.out (by kernel_rfl)) (by decide) (fun K hK => ?_)
  have hs3 := cellS55_3 HI.out.1
  have hf3 := blk_frozen HI.out.1 3
  refine skip_ (w1 := ?_) (by rfl) rfl ?_ ?_
  rotate_left
  · go_simp
    rfl
  refine hK.out _ _ ?_
  clear hK K
  refine done_ (done_of HT_.out (by kernel_rfl)) ?_
  clear hs3 hf3 hHeld
  have n0_ := Aside0.mk (PI.put3 HI.out HS.out)
  have n2_ := Aside0.mk (below_set (j := 3) (v := .slice A1 (L ++ [x]).length c1) HB.out HI.out.ge)
  have n3_ := Aside0.mk (Kept.setG HK.out (j := 3) (.slice A1 (L ++ [x]).length c1))
  have hl1 : (L ++ [x]).length = L.length + 1 := by simp
  rw [hl1] at n0_ n2_ n3_
  generalize World.setCell w6 ⟨g, 3, none⟩ (.slice A1 (L.length + 1) c1) = w7 at n0_ n2_ n3_ ⊢
  clear HI HB HK BK HS
  have hc3 := cellS55_3 n0_.out.1.1
  have hc4 := cellS55_4 n0_.out.1.1
  have hf4 := blk_frozen n0_.out.1.1 4
  cases wr
  · go_wp2
    go_ret
    exact ⟨rfl, ⟨_, n0_.out.set4 _⟩, Kept.setG n3_.out _, below_set n2_.out n0_.out.ge⟩
  · go_wp2
    go_ret
    exact ⟨rfl, ⟨_, n0_.out.set4 _⟩, Kept.setG n3_.out _, below_set n2_.out n0_.out.ge⟩
def spec_l2node.T1 : Bool × List (List Nat × List Nat) := (true, [([], []), ([], []), ([1], [1]), ([2], [2]), ([3], [3]), ([], []), ([5], [5]), ([4, 6], [4, 6]), ([0, 0, 1, 2, 3, 4, 5, 6, 7], [0]), ([8, 0, 1, 2, 3, 4, 5, 6, 7], [8]), ([9, 7, 7, 0, 1, 2, 3, 4, 5, 6, 7], [7, 9])])
def spec_l2node.B1 : List Nat := [0, 0, 2, 6, 14, 0, 32, 126, 255, 511, 1023]
theorem spec_l2node.tab1 : rtab .any (opsOf Try.f42 1) = spec_l2node.T1 := by kernel_rfl
theorem spec_l2node.bits1 : waitsOk spec_l2node.T1.2 spec_l2node.B1 = true := by kernel_rfl
set_option maxHeartbeats 8000000 in
set_option maxRecDepth 100000 in
theorem spec_l2node.calls (P okp : Nat → Prop) (w0 w : World) (g : Nat) (s : ByteArray) (at_ : Int) (v : Value) (L : List S39) (wr : Bool) (x : S39) (kv : Value)
    (hI : PS (fun k => P k ∧ ¬ okp k) w0 w g s at_ v L wr) (hR : (Kd.int .i64).R 3 w w0.heap.size okp kv x.f3) (hokp : ∀ k, okp k → P k ∧ k ≠ g) (hB : Below w0.heap.size w0 w)
    (hP : ∀ k, w.heap.size ≤ k → P k) (hl : L.length < 100000) :
    Calls Try.prog 42 #[.pointer (some ⟨g, 0, none⟩), .agg #[.int .i64 x.f0, .bool x.f1, .string x.f2, kv]] w fun e w' => e = .returned (.int .i64 L.length) ∧ PostS P w0 w g s at_ (L ++ [x]) wr w' := by
  have hu25 := Try.underlying25
  have hu39 := Try.underlying39
  obtain ⟨A, c, rfl⟩ := Kd.S_slice hI.2
  obtain ⟨v, hv⟩ : ∃ v, Value.slice A L.length c = v := ⟨_, rfl⟩
  rw [hv] at hI
  have hvo := fun k => Kd.S_lt hI.2 k
  have HI := Aside0.mk hI
  have HR := Aside0.mk hR
  have HB := Aside0.mk hB
  have HK := Aside0.mk (Kept.refl w (fun k => k = g ∨ P k))
  clear hI hR hB
  go_enter Try.func42, Try.ntmps42
  go_upto_region 1 with (first | ((with_reducible refine gate_dst (N := 3) rfl ?_); (try (refine gate_guard (by rfl) ?_; dsimp only)); refine box_event ?hg (N := 3) ?hd (cs := #[.int .i64 x.f0, .bool x.f1, .string x.f2, kv]) (t := 39) ?hr ?_; (case hd => rfl); (case hg => rfl); (case hr => first | (go_simp; done) | (go_simp; rfl)); intro gb hg w4 hbox hb; have hgb := Aside0.mk (show some gb ≠ v.ownBlock from fun e => by have := hvo gb e.symm; omega); clear hg))
  have n0_ := Aside0.mk ((HI.out.below hb).drew)
  have n1_ := Aside0.mk (Kd.R_drew (Kd.R_below HR.out hb))
  have n2_ := Aside0.mk (below_drew1 (below_step HB.out hb))
  have n3_ := Aside0.mk (Kept.drew (HK.out.below hb))
  have n4_ := Aside0.mk (blk_drew hbox)
  have hsz : w0.heap.size ≤ w4.drew.heap.size := n2_.out.size
  clear HI HR HB HK hb hbox
  have HI := n0_
  have HR := n1_
  have HB := n2_
  have HK := n3_
  have BK := n4_
  clear n0_ n1_ n2_ n3_ n4_
  refine start_ (n := 11) (S := fun w' => w'.cell? ⟨g, 2, none⟩ = some v ∧ w'.cell? ⟨gb, 0, none⟩ = some (.int .i64 x.f0) ∧ w'.cell? ⟨gb, 1, none⟩ = some (.bool x.f1) ∧ w'.cell? ⟨gb, 2, none⟩ = some (.string x.f2) ∧ w'.cell? ⟨gb, 3, none⟩ = some kv) (ds := [10]) #[false, false, false, false, false, false, false, false, false, false, false] (by kernel_rfl) rfl rfl ⟨cellS50_2 HI.out.1.1, (blk_cell BK.out 0).trans rfl, (blk_cell BK.out 1).trans rfl, (blk_cell BK.out 2).trans rfl, (blk_cell BK.out 3).trans rfl⟩ (fun hHeld => ?_)
  refine with_tabW spec_l2node.tab1 spec_l2node.bits1 (fun HT_ HW_ => ?_)
  generalize w4.drew = w5 at HI HR HB HK BK hHeld hsz ⊢
  refine pure_ (i := 0) (N := some 5) (v := ?_) (a' := ?_) #[true, false, false, false, false, false, false, false, false, false, false] rfl rfl (any_of HT_.out (by kernel_rfl)) (fun _ _ _ h => h) (Or.inl ⟨by rfl, ?_⟩) ?_ ?_
  rotate_left
  · intro w'
    go_simp
    with_reducible rfl
  rotate_left
  · simp only [Act.put, List.setIfInBounds_toArray, List.set_cons_zero, List.set_cons_succ, i64_w, i32_w]
    rfl
  refine pure_ (i := 1) (N := some 6) (v := ?_) (a' := ?_) #[true, true, false, false, false, false, false, false, false, false, false] rfl rfl (any_of HT_.out (by kernel_rfl)) (fun _ _ _ h => h) (Or.inl ⟨by rfl, ?_⟩) ?_ ?_
  rotate_left
  · intro w'
    go_simp
    with_reducible rfl
  rotate_left
  · simp only [Act.put, List.setIfInBounds_toArray, List.set_cons_zero, List.set_cons_succ, i64_w, i32_w]
    rfl
  refine pure_ (i := 2) (N := some 7) (v := ?_) (a' := ?_) #[true, true, true, false, false, false, false, false, false, false, false] rfl rfl (any_of HT_.out (by kernel_rfl)) (fun _ _ _ h => h) (Or.inl ⟨by rfl, ?_⟩) ?_ ?_
  rotate_left
  · intro w'
    go_simp
    with_reducible rfl
  rotate_left
  · simp only [Act.put, List.setIfInBounds_toArray, List.set_cons_zero, List.set_cons_succ, i64_w, i32_w]
    rfl
  refine pure_ (i := 3) (N := some 8) (v := ?_) (a' := ?_) #[true, true, true, true, false, false, false, false, false, false, false] rfl rfl (any_of HT_.out (by kernel_rfl)) (fun _ _ _ h => h) (Or.inl ⟨by rfl, ?_⟩) ?_ ?_
  rotate_left
  · intro w'
    go_simp
    with_reducible rfl
  rotate_left
  · simp only [Act.put, List.setIfInBounds_toArray, List.set_cons_zero, List.set_cons_succ, i64_w, i32_w]
    rfl
  refine take_ (i := 4) (N := some 9) (v := ?_) (a' := ?_) #[true, true, true, true, true, false, false, false, false, false, false] rfl rfl (take_ofW HT_.out HW_.out (by kernel_rfl)) (fun _ _ _ h => h) (Or.inl ⟨by rfl, ?_⟩) hHeld ?_ ?_
  rotate_left
  · rintro w' ⟨s0, s1, s2, s3, s4⟩
    go_simp
    with_reducible rfl
  rotate_left
  · simp only [Act.put, List.setIfInBounds_toArray, List.set_cons_zero, List.set_cons_succ, i64_w, i32_w]
    rfl
  refine take_ (i := 5) (N := some 10) (v := ?_) (a' := ?_) #[true, true, true, true, true, true, false, false, false, false, false] rfl rfl (take_ofW HT_.out HW_.out (by kernel_rfl)) (fun _ _ _ h => h) (Or.inl ⟨by rfl, ?_⟩) hHeld ?_ ?_
  rotate_left
  · rintro w' ⟨s0, s1, s2, s3, s4⟩
    go_simp
    with_reducible rfl
  rotate_left
  · simp only [Act.put, List.setIfInBounds_toArray, List.set_cons_zero, List.set_cons_succ, i64_w, i32_w]
    rfl
  refine one_ (i := 6) (N := some 11) #[true, true, true, true, true, true, true, false, false, false, false] rfl rfl (one_of HT_.out (by kernel_rfl)) (by decide) (fun K hK => ?_)
  refine value_ (w1 := ?_) (v := ?_) (by rfl) rfl ?_ ?_
  rotate_left 2
  · go_simp
    constructor
    · rfl
    · rfl
  refine hK.out _ _ ⟨(cell_alloc_lt' hHeld.1), (cell_alloc_lt' hHeld.2.1), (cell_alloc_lt' hHeld.2.2.1), (cell_alloc_lt' hHeld.2.2.2.1), (cell_alloc_lt' hHeld.2.2.2.2)⟩ (fun hHeld => ?_)
  clear hK K
  refine norm_ (a' := ?_) ?_ ?_
  rotate_left
  · show Act.put _ (some 11) _ = _
    simp only [Act.put, List.setIfInBounds_toArray, List.set_cons_zero, List.set_cons_succ, i64_w, i32_w]
    rfl
  refine one_ (i := 7) (N := some 12) #[true, true, true, true, true, true, true, true, false, false, false] rfl rfl (one_of HT_.out (by kernel_rfl)) (by decide) (fun K hK => ?_)
  refine Kd.S_append_step k39 (w0 := w0) w0.heap.size (by rfl) (.tmp 9) (.tmp 11) 25 39 (.agg #[.int .i64 0, .bool false, .string ⟨#[]⟩, .slice none 0 0]) 56 rfl Try.underlying25 info39 rfl (by decide) (by omega) v L x [.int .i64 x.f0, .bool x.f1, .string x.f2, kv] (fun k => P k ∧ k ≠ g) okp rfl rfl ?aP ?aK ?aF ?aO ?aB ?aS ?aL ?_
  case aP => exact k39_mkM _ _ _ _ HR.out
  case aK => exact fun k hk => ⟨hokp k hk, fun e => (Kd.S_R HI.out.2).1 k e.symm |>.1.2 hk⟩
  case aF => exact fun k hk => ⟨hP k (Nat.le_trans HK.out.1 hk), fun e => by have := HI.out.lt; omega⟩
  case aO => exact Kd.S_mono HI.out.2 (fun k hk => ⟨⟨hk.1.1, hk.2⟩, hk.1.2⟩)
  case aB => exact HB.out
  case aS => exact hsz
  case aL => omega
  intro v1 w6 ho hb hg2 hat
  obtain ⟨A1, c1, rfl⟩ := Kd.S_slice ho
  have hvg : some g ≠ v.ownBlock := fun e => ((Kd.S_R HI.out.2).1 g e.symm).2 rfl
  have n0_ := Aside0.mk (HI.out.1.grown hg2 hvg)
  have n1_ := Aside0.mk ho
  have n2_ := Aside0.mk hb
  have n3_ := Aside0.mk (Kept.of_grown hg2 HK.out (fun k hk => .inl (.inr ((Kd.S_R HI.out.2).1 k hk).1.1)))
  have n4_ := Aside0.mk (blk_grown BK.out hg2 hgb.out)
  clear HI HB HK BK HR
  have HI := n0_
  have HS := n1_
  have HB := n2_
  have HK := n3_
  have BK := n4_
  clear n0_ n1_ n2_ n3_ n4_ ho hb hg2 hat
  refine hK.out _ _ ⟨cellS50_2 HI.out.1, (blk_cell BK.out 0).trans rfl, (blk_cell BK.out 1).trans rfl, (blk_cell BK.out 2).trans rfl, (blk_cell BK.out 3).trans rfl⟩ (fun hHeld => ?_)
  clear hK K
  refine norm_ (a' := ?_) ?_ ?_
  rotate_left
  · show Act.put _ (some 12) _ = _
    simp only [Act.put, List.setIfInBounds_toArray, List.set_cons_zero, List.set_cons_succ, i64_w, i32_w]
    rfl
  refine pure_ (i := 8) (N := some 13) (v := ?_) (a' := ?_) #[true, true, true, true, true, true, true, true, true, false, false] rfl rfl (any_of HT_.out (by kernel_rfl)) (fun _ _ _ h => h) (Or.inl ⟨by rfl, ?_⟩) ?_ ?_
  rotate_left
  · intro w'
    go_simp
    with_reducible rfl
  rotate_left
  · simp only [Act.put, List.setIfInBounds_toArray, List.set_cons_zero, List.set_cons_succ, i64_w, i32_w]
    rfl
  refine pure_ (i := 9) (N := some 14) (v := ?_) (a' := ?_) #[true, true, true, true, true, true, true, true, true, true, false] rfl rfl (any_of HT_.out (by kernel_rfl)) (fun _ _ _ h => h) (Or.inl ⟨by rfl, ?_⟩) ?_ ?_
  rotate_left
  · intro w'
    go_simp
    with_reducible rfl
  rotate_left
  · simp only [Act.put, List.setIfInBounds_toArray, List.set_cons_zero, List.set_cons_succ, i64_w, i32_w]
    rfl
  refine last_ (i := 10) (N := none) #[true, true, true, true, true, true, true, true, true, true, true] rfl rfl (one_of HT_.out (by kernel_rfl)) (by decide) (fun K hK => ?_)
  have hs3 := cellS50_2 HI.out.1
  have hf3 := blk_frozen HI.out.1 2
  refine skip_ (w1 := ?_) (by rfl) rfl ?_ ?_
  rotate_left
  · go_simp
    rfl
  refine hK.out _ _ ?_
  clear hK K
  refine done_ (done_of HT_.out (by kernel_rfl)) ?_
  clear hs3 hf3 hHeld
  have n0_ := Aside0.mk (PS.put2 HI.out HS.out)
  have n2_ := Aside0.mk (below_set (j := 2) (v := .slice A1 (L ++ [x]).length c1) HB.out HI.out.ge)
  have n3_ := Aside0.mk (Kept.setG HK.out (j := 2) (.slice A1 (L ++ [x]).length c1))
  have hl1 : (L ++ [x]).length = L.length + 1 := by simp
  rw [hl1] at n0_ n2_ n3_
  generalize World.setCell w6 ⟨g, 2, none⟩ (.slice A1 (L.length + 1) c1) = w7 at n0_ n2_ n3_ ⊢
  clear HI HB HK BK HS
  have hc2 := cellS50_2 n0_.out.1.1
  have hc3 := cellS50_3 n0_.out.1.1
  have hf3 := blk_frozen n0_.out.1.1 3
  try go_wp2
  go_ret
  exact ⟨by first | rfl | (simp; done) | (simp; omega), ⟨_, n0_.out⟩, n3_.out, n2_.out⟩

structure IS where
  at_ : Int
  deep : Int
  L : List S39
  wr : Bool
structure SS where
  at_ : Int
  L : List S39
  wr : Bool

/-! ### the small functions -/
def iSees (s : ByteArray) (a : Int) (b : ByteArray) : Option Bool := if a < (s.size : Int) then (if 0 ≤ a then some (decide (Lib.indexByte b.data.toList (bt s a).toNat.toUInt8 ≥ 0)) else none) else some false
def iNext (s : ByteArray) (a : Int) (wr : Bool) : Option (Int × Int × Bool) :=
  if a ≥ (s.size : Int) then some (0, a, true) else (if 0 ≤ wrap64 (wrap64 (a + 1) - 1) then (if wrap64 (wrap64 (a + 1) - 1) < (s.size : Int) then some (bt s (wrap64 (wrap64 (a + 1) - 1)), wrap64 (a + 1), wr) else none) else none)
def iItem (s : ByteArray) (a : Int) (wr : Bool) : Option (Int × Int × Bool) :=
  (iNext s a wr).bind fun r => if r.1 = 92 then iNext s r.2.1 r.2.2 else (if r.2.2 = true then some (r.1, r.2.1, true) else some (r.1, r.2.1, (r.1 == 93)))
def sMore (s : ByteArray) (a : Int) : Bool := decide (a < (s.size : Int))
def sPeek (s : ByteArray) (a : Int) : Option Int := if a < (s.size : Int) then (if 0 ≤ a then some (bt s a) else none) else some 0
def sGot (s : ByteArray) (a : Int) (wr : Bool) : Option (Int × Int × Bool) :=
  if 0 ≤ wrap64 (wrap64 (a + 1) - 1) then (if wrap64 (wrap64 (a + 1) - 1) < (s.size : Int) then some (bt s (wrap64 (wrap64 (a + 1) - 1)), wrap64 (a + 1), wr) else none) else none
def sItem (s : ByteArray) (a : Int) (wr : Bool) : Option (Int × Int × Bool) :=
  if sMore s a = true then (sPeek s a).bind fun c => if c = 93 then some (0, a, true) else (if c = 92 then (if sMore s (wrap64 (a + 1)) = true then sGot s (wrap64 (a + 1)) wr else some (0, wrap64 (a + 1), true)) else sGot s a wr)
  else some (0, a, true)

/-! ### a state carried along -/
structure QI (P : Nat → Prop) (w0 w W : World) (g : Nat) (s : ByteArray) (at_ deep : Int) (v : Value) (L : List S39) (wr : Bool) : Prop where
  pi : PI P w0 W g s at_ deep v L wr
  kept : Kept w W (fun k => k = g ∨ P k)
  below : Below w0.heap.size w0 W
structure QS (P : Nat → Prop) (w0 w W : World) (g : Nat) (s : ByteArray) (at_ : Int) (v : Value) (L : List S39) (wr : Bool) : Prop where
  pi : PS P w0 W g s at_ v L wr
  kept : Kept w W (fun k => k = g ∨ P k)
  below : Below w0.heap.size w0 W
section
variable {P P' : Nat → Prop} {w0 w W W1 : World} {g : Nat} {s : ByteArray} {at_ at' deep deep' : Int} {v v' : Value} {L L' : List S39} {wr wr' : Bool}
theorem QI.refl (h : PI P w0 W g s at_ deep v L wr) (hb : Below w0.heap.size w0 W) : QI P w0 W W g s at_ deep v L wr := ⟨h, Kept.refl _ _, hb⟩
theorem QI.le (h : QI P w0 w W g s at_ deep v L wr) : w0.heap.size ≤ W.heap.size := h.below.size
theorem QI.belowS (h : QI P w0 w W g s at_ deep v L wr) (hb : Below W.heap.size W W1) : QI P w0 w W1 g s at_ deep v L wr := ⟨h.pi.below hb, h.kept.below hb, below_step h.below hb⟩
theorem QI.alloc (h : QI P w0 w W g s at_ deep v L wr) (o : Obj) : QI P w0 w (W.alloc o) g s at_ deep v L wr := h.belowS (below_alloc (Below.refl _ _) o)
theorem QI.drewN (h : QI P w0 w W g s at_ deep v L wr) (m : Nat) : QI P w0 w (W.drewN m) g s at_ deep v L wr := h.belowS (pw_below_drewN (Below.refl _ _) m)
theorem QI.drew (h : QI P w0 w W g s at_ deep v L wr) : QI P w0 w W.drew g s at_ deep v L wr := h.belowS (below_drew (Below.refl _ _))
theorem QI.set1 (h : QI P w0 w W g s at_ deep v L wr) (x : Int) : QI P w0 w (W.setCell ⟨g, 1, none⟩ (.int .i64 x)) g s x deep v L wr := ⟨h.pi.set1 x, Kept.setG h.kept _, below_set h.below h.pi.ge⟩
theorem QI.set2 (h : QI P w0 w W g s at_ deep v L wr) (x : Int) : QI P w0 w (W.setCell ⟨g, 2, none⟩ (.int .i64 x)) g s at_ x v L wr := ⟨h.pi.set2 x, Kept.setG h.kept _, below_set h.below h.pi.ge⟩
theorem QI.set4 (h : QI P w0 w W g s at_ deep v L wr) (x : Bool) : QI P w0 w (W.setCell ⟨g, 4, none⟩ (.bool x)) g s at_ deep v L x := ⟨h.pi.set4 x, Kept.setG h.kept _, below_set h.below h.pi.ge⟩
theorem QI.keep (h : QI P w0 w W g s at_ deep v L wr) (hi : IsS55 w0 W1 g s at' deep' v wr') (hk : KeepBut W W1 g none) (hb : Below w0.heap.size w0 W1) : QI P w0 w W1 g s at' deep' v L wr' := ⟨h.pi.keep hi hk, Kept.of_callee h.kept hk, hb⟩
theorem QI.go (h : QI P w0 w W g s at_ deep v L wr) (k : PostI P' w0 W g s at' deep' L' wr' W1) (hp : ∀ k, P' k → P k) : ∃ v', QI P w0 w W1 g s at' deep' v' L' wr' := by
  obtain ⟨⟨v', h1⟩, h2, h3⟩ := k
  exact ⟨v', h1.mono hp, Kept.go h.kept h2 hp, h3⟩
theorem QI.post (h : QI P w0 w W g s at_ deep v L wr) : PostI P w0 w g s at_ deep L wr W := ⟨⟨v, h.pi⟩, h.kept, h.below⟩
theorem QI.freshP (h : QI P w0 w W g s at_ deep v L wr) (hP : ∀ k, w.heap.size ≤ k → P k) : ∀ k, W.heap.size ≤ k → P k := fun k hk => hP k (Nat.le_trans h.kept.1 hk)
theorem QS.refl (h : PS P w0 W g s at_ v L wr) (hb : Below w0.heap.size w0 W) : QS P w0 W W g s at_ v L wr := ⟨h, Kept.refl _ _, hb⟩
theorem QS.le (h : QS P w0 w W g s at_ v L wr) : w0.heap.size ≤ W.heap.size := h.below.size
theorem QS.belowS (h : QS P w0 w W g s at_ v L wr) (hb : Below W.heap.size W W1) : QS P w0 w W1 g s at_ v L wr := ⟨h.pi.below hb, h.kept.below hb, below_step h.below hb⟩
theorem QS.alloc (h : QS P w0 w W g s at_ v L wr) (o : Obj) : QS P w0 w (W.alloc o) g s at_ v L wr := h.belowS (below_alloc (Below.refl _ _) o)
theorem QS.drewN (h : QS P w0 w W g s at_ v L wr) (m : Nat) : QS P w0 w (W.drewN m) g s at_ v L wr := h.belowS (pw_below_drewN (Below.refl _ _) m)
theorem QS.drew (h : QS P w0 w W g s at_ v L wr) : QS P w0 w W.drew g s at_ v L wr := h.belowS (below_drew (Below.refl _ _))
theorem QS.set1 (h : QS P w0 w W g s at_ v L wr) (x : Int) : QS P w0 w (W.setCell ⟨g, 1, none⟩ (.int .i64 x)) g s x v L wr := ⟨h.pi.set1 x, Kept.setG h.kept _, below_set h.below h.pi.ge⟩
theorem QS.set3 (h : QS P w0 w W g s at_ v L wr) (x : Bool) : QS P w0 w (W.setCell ⟨g, 3, none⟩ (.bool x)) g s at_ v L x := ⟨h.pi.set3 x, Kept.setG h.kept _, below_set h.below h.pi.ge⟩
theorem QS.keep (h : QS P w0 w W g s at_ v L wr) (hi : IsS50 w0 W1 g s at' v wr') (hk : KeepBut W W1 g none) (hb : Below w0.heap.size w0 W1) : QS P w0 w W1 g s at' v L wr' := ⟨h.pi.keep hi hk, Kept.of_callee h.kept hk, hb⟩
theorem QS.go (h : QS P w0 w W g s at_ v L wr) (k : PostS P' w0 W g s at' L' wr' W1) (hp : ∀ k, P' k → P k) : ∃ v', QS P w0 w W1 g s at' v' L' wr' := by
  obtain ⟨⟨v', h1⟩, h2, h3⟩ := k
  exact ⟨v', h1.mono hp, Kept.go h.kept h2 hp, h3⟩
theorem QS.post (h : QS P w0 w W g s at_ v L wr) : PostS P w0 w g s at_ L wr W := ⟨⟨v, h.pi⟩, h.kept, h.below⟩
theorem QS.freshP (h : QS P w0 w W g s at_ v L wr) (hP : ∀ k, w.heap.size ≤ k → P k) : ∀ k, W.heap.size ≤ k → P k := fun k hk => hP k (Nat.le_trans h.kept.1 hk)

/-! ### the small contracts -/
theorem sees_q {b : ByteArray} {r : Bool} (h : QI P w0 w W g s at_ deep v L wr) (hf : iSees s at_ b = some r) :
    Calls Try.prog 44 #[.pointer (some ⟨g, 0, none⟩), .string b] W fun e W' => e = .returned (.bool r) ∧ QI P w0 w W' g s at_ deep v L wr := by
  have h2 : impl_reParser_sees.f s at_ deep v wr b = some (r, s, at_, deep, wr) := by
    unfold iSees at hf; unfold impl_reParser_sees.f
    split at hf
    · rename_i c1
      rw [if_pos c1]
      split at hf
      · rename_i c2
        rw [if_pos c2]
        injection hf with hf
        subst hf; rfl
      · cases hf
    · rename_i c1
      rw [if_neg c1]
      injection hf with hf
      subst hf; rfl
  refine (impl_reParser_sees.calls g s at_ deep v wr b r s at_ deep wr w0 W h.pi.1 h.below h2).mono ?_
  rintro e W' ⟨he, hi, hb, hk⟩
  exact ⟨he, h.keep hi hk hb⟩
theorem next_f {r : Int} (hf : iNext s at_ wr = some (r, at', wr')) : impl_reParser_next.f s at_ deep v wr = some (r, s, at', deep, wr') := by
  unfold iNext at hf; unfold impl_reParser_next.f
  split at hf
  · rename_i c1
    rw [if_pos c1]
    simp only [Option.some.injEq, Prod.mk.injEq] at hf
    obtain ⟨rfl, rfl, rfl⟩ := hf; rfl
  · rename_i c1
    rw [if_neg c1]
    split at hf
    · rename_i c2
      rw [if_pos c2]
      split at hf
      · rename_i c3
        rw [if_pos c3]
        simp only [Option.some.injEq, Prod.mk.injEq] at hf
        obtain ⟨rfl, rfl, rfl⟩ := hf; rfl
      · cases hf
    · cases hf
theorem next_q {r : Int} (h : QI P w0 w W g s at_ deep v L wr) (hf : iNext s at_ wr = some (r, at', wr')) :
    Calls Try.prog 55 #[.pointer (some ⟨g, 0, none⟩)] W fun e W' => e = .returned (.int .u8 r) ∧ QI P w0 w W' g s at' deep v L wr' := by
  refine (impl_reParser_next.calls g s at_ deep v wr r s at' deep wr' w0 W h.pi.1 h.below (next_f hf)).mono ?_
  rintro e W' ⟨he, hi, hb, hk⟩
  exact ⟨he, h.keep hi hk hb⟩
theorem item_q {r : Int} (h : QI P w0 w W g s at_ deep v L wr) (hf : iItem s at_ wr = some (r, at', wr')) :
    Calls Try.prog 63 #[.pointer (some ⟨g, 0, none⟩)] W fun e W' => e = .returned (.int .u8 r) ∧ QI P w0 w W' g s at' deep v L wr' := by
  have h2 : impl_reParser_item.f s at_ deep v wr = some (r, s, at', deep, wr') := by
    unfold iItem at hf; unfold impl_reParser_item.f
    obtain ⟨⟨c, a1, w1⟩, h1, hf⟩ := Option.bind_eq_some_iff.mp hf
    rw [next_f h1, Option.bind_some]
    dsimp only at hf ⊢
    split at hf
    · rename_i c1
      rw [if_pos c1, next_f hf, Option.bind_some]
    · rename_i c1
      rw [if_neg c1]
      split at hf
      · rename_i c2
        rw [if_pos c2]
        simp only [Option.some.injEq, Prod.mk.injEq] at hf
        obtain ⟨rfl, rfl, rfl⟩ := hf; rfl
      · rename_i c2
        rw [if_neg c2]
        simp only [Option.some.injEq, Prod.mk.injEq] at hf
        obtain ⟨rfl, rfl, rfl⟩ := hf; rfl
  refine (impl_reParser_item.calls g s at_ deep v wr r s at' deep wr' w0 W h.pi.1 h.below h2).mono ?_
  rintro e W' ⟨he, hi, hb, hk⟩
  exact ⟨he, h.keep hi hk hb⟩
theorem more_q (h : QS P w0 w W g s at_ v L wr) :
    Calls Try.prog 40 #[.pointer (some ⟨g, 0, none⟩)] W fun e W' => e = .returned (.bool (sMore s at_)) ∧ QS P w0 w W' g s at_ v L wr := by
  refine (spec_l2more.calls g s at_ v wr (sMore s at_) s at_ wr w0 W h.pi.1 h.below rfl).mono ?_
  rintro e W' ⟨he, hi, hb, hk⟩
  exact ⟨he, h.keep hi hk hb⟩
theorem peek_f {r : Int} (hf : sPeek s at_ = some r) : spec_l2peek.f s at_ v wr = some (r, s, at_, wr) := by
  unfold sPeek at hf; unfold spec_l2peek.f
  split at hf
  · rename_i c1
    rw [if_pos c1]
    split at hf
    · rename_i c2
      rw [if_pos c2]
      injection hf with hf
      subst hf; rfl
    · cases hf
  · rename_i c1
    rw [if_neg c1]
    injection hf with hf
    subst hf; rfl
theorem peek_q {r : Int} (h : QS P w0 w W g s at_ v L wr) (hf : sPeek s at_ = some r) :
    Calls Try.prog 41 #[.pointer (some ⟨g, 0, none⟩)] W fun e W' => e = .returned (.int .u8 r) ∧ QS P w0 w W' g s at_ v L wr := by
  refine (spec_l2peek.calls g s at_ v wr r s at_ wr w0 W h.pi.1 h.below (peek_f hf)).mono ?_
  rintro e W' ⟨he, hi, hb, hk⟩
  exact ⟨he, h.keep hi hk hb⟩
theorem got_f {r : Int} (hf : sGot s at_ wr = some (r, at', wr')) : (if 0 ≤ (wrap64 ((wrap64 (at_ + 1)) - 1)) then (if (wrap64 ((wrap64 (at_ + 1)) - 1)) < (s.size : Int) then (some (bt s (wrap64 ((wrap64 (at_ + 1)) - 1)), s, wrap64 (at_ + 1), wr)) else (none)) else (none)) = some (r, s, at', wr') := by
  unfold sGot at hf
  split at hf
  · rename_i c2
    rw [if_pos c2]
    split at hf
    · rename_i c3
      rw [if_pos c3]
      simp only [Option.some.injEq, Prod.mk.injEq] at hf
      obtain ⟨rfl, rfl, rfl⟩ := hf; rfl
    · cases hf
  · cases hf
theorem sitem_q {r : Int} (h : QS P w0 w W g s at_ v L wr) (hf : sItem s at_ wr = some (r, at', wr')) :
    Calls Try.prog 62 #[.pointer (some ⟨g, 0, none⟩)] W fun e W' => e = .returned (.int .u8 r) ∧ QS P w0 w W' g s at' v L wr' := by
  have h2 : spec_l2item.f 1 s at_ v wr = some (r, s, at', wr') := by
    unfold sItem at hf
    show ((some (sMore s at_, s, at_, wr) : Option (Bool × ByteArray × Int × Bool)).bind _) = _
    rw [Option.bind_some]
    dsimp only
    split at hf
    · rename_i c1
      rw [if_pos c1]
      obtain ⟨c, h1, hf⟩ := Option.bind_eq_some_iff.mp hf
      rw [peek_f h1, Option.bind_some]
      dsimp only [spec_l2item.j0]
      split at hf
      · rename_i c2
        rw [if_pos (beq_iff_eq.mpr c2)]
        simp only [Option.some.injEq, Prod.mk.injEq] at hf
        obtain ⟨rfl, rfl, rfl⟩ := hf; rfl
      · rename_i c2
        rw [if_neg (by simpa using c2), peek_f h1, Option.bind_some]
        dsimp only
        split at hf
        · rename_i c3
          rw [if_pos c3]
          show ((some (sMore s (wrap64 (at_ + 1)), s, wrap64 (at_ + 1), wr) : Option (Bool × ByteArray × Int × Bool)).bind _) = _
          rw [Option.bind_some]
          dsimp only
          split at hf
          · rename_i c4
            rw [if_pos c4]
            exact got_f hf
          · rename_i c4
            rw [if_neg c4]
            simp only [Option.some.injEq, Prod.mk.injEq] at hf
            obtain ⟨rfl, rfl, rfl⟩ := hf; rfl
        · rename_i c3
          rw [if_neg c3]
          exact got_f hf
    · rename_i c1
      rw [if_neg c1]
      dsimp only [spec_l2item.j0]
      rw [if_pos rfl]
      simp only [Option.some.injEq, Prod.mk.injEq] at hf
      obtain ⟨rfl, rfl, rfl⟩ := hf; rfl
  refine (spec_l2item.calls 1 g s at_ v wr r s at' wr' w0 W h.pi.1 h.below h2).mono ?_
  rintro e W' ⟨he, hi, hb, hk⟩
  exact ⟨he, h.keep hi hk hb⟩
/-- A node without kids joins. -/
theorem add_q {x : S39} (h : QI P w0 w W g s at_ deep v L wr) (hP : ∀ k, w.heap.size ≤ k → P k) (hl : L.length < 100000) (hx : x.f3 = []) :
    Calls Try.prog 51 #[.pointer (some ⟨g, 0, none⟩), .agg #[.int .i64 x.f0, .bool x.f1, .string x.f2, .slice none 0 0]] W fun e W' => e = .returned (.int .i64 L.length) ∧ ∃ v', QI P w0 w W' g s at_ deep v' (L ++ [x]) (wr || decide ((200 : Int) < (L.length : Int) + 1)) := by
  refine (impl_add.calls P (fun _ => False) w0 W g s at_ deep v L wr x (.slice none 0 0) (h.pi.mono (fun k hk => ⟨hk, fun h => h⟩)) (by rw [hx]; exact Kd.R_nil _ _ _ _ _) (fun _ hk => hk.elim) h.below (h.freshP hP) hl).mono ?_
  rintro e W' ⟨he, hp⟩
  exact ⟨he, h.go hp (fun _ hk => hk)⟩
theorem node_q {x : S39} (h : QS P w0 w W g s at_ v L wr) (hP : ∀ k, w.heap.size ≤ k → P k) (hl : L.length < 100000) (hx : x.f3 = []) :
    Calls Try.prog 42 #[.pointer (some ⟨g, 0, none⟩), .agg #[.int .i64 x.f0, .bool x.f1, .string x.f2, .slice none 0 0]] W fun e W' => e = .returned (.int .i64 L.length) ∧ ∃ v', QS P w0 w W' g s at_ v' (L ++ [x]) wr := by
  refine (spec_l2node.calls P (fun _ => False) w0 W g s at_ v L wr x (.slice none 0 0) (h.pi.mono (fun k hk => ⟨hk, fun h => h⟩)) (by rw [hx]; exact Kd.R_nil _ _ _ _ _) (fun _ hk => hk.elim) h.below (h.freshP hP) hl).mono ?_
  rintro e W' ⟨he, hp⟩
  exact ⟨he, h.go hp (fun _ hk => hk)⟩
end

structure QKI (P : Nat → Prop) (w0 w W : World) (g : Nat) (s : ByteArray) (at_ deep : Int) (v : Value) (L : List S39) (wr : Bool) (kv : Value) (ks : List Int) : Prop where
  pi : PI (fun k => P k ∧ some k ≠ kv.ownBlock) w0 W g s at_ deep v L wr
  kids : (Kd.int .i64).R 3 W w0.heap.size (fun k => P k ∧ k ≠ g) kv ks
  kept : Kept w W (fun k => k = g ∨ P k)
  below : Below w0.heap.size w0 W
section
variable {P P' : Nat → Prop} {w0 w W W1 : World} {g : Nat} {s : ByteArray} {at_ at' deep deep' : Int} {v v' kv kv1 : Value} {L L' : List S39} {wr wr' : Bool} {ks ks1 : List Int}
theorem QKI.le (h : QKI P w0 w W g s at_ deep v L wr kv ks) : w0.heap.size ≤ W.heap.size := h.below.size
theorem QKI.belowS (h : QKI P w0 w W g s at_ deep v L wr kv ks) (hb : Below W.heap.size W W1) : QKI P w0 w W1 g s at_ deep v L wr kv ks := ⟨h.pi.below hb, Kd.R_below h.kids hb, h.kept.below hb, below_step h.below hb⟩
theorem QKI.alloc (h : QKI P w0 w W g s at_ deep v L wr kv ks) (o : Obj) : QKI P w0 w (W.alloc o) g s at_ deep v L wr kv ks := h.belowS (below_alloc (Below.refl _ _) o)
theorem QKI.drewN (h : QKI P w0 w W g s at_ deep v L wr kv ks) (m : Nat) : QKI P w0 w (W.drewN m) g s at_ deep v L wr kv ks := h.belowS (pw_below_drewN (Below.refl _ _) m)
theorem QKI.drew (h : QKI P w0 w W g s at_ deep v L wr kv ks) : QKI P w0 w W.drew g s at_ deep v L wr kv ks := h.belowS (below_drew (Below.refl _ _))
theorem QKI.set1 (h : QKI P w0 w W g s at_ deep v L wr kv ks) (x : Int) : QKI P w0 w (W.setCell ⟨g, 1, none⟩ (.int .i64 x)) g s x deep v L wr kv ks := ⟨h.pi.set1 x, Kd.R_far h.kids (fun _ hk => hk.2) _, Kept.setG h.kept _, below_set h.below h.pi.ge⟩
/-- What a callee is given: a state of which the kids' row is no part; nothing is written yet. -/
theorem QKI.give (h : QKI P w0 w W g s at_ deep v L wr kv ks) : QI (fun k => P k ∧ some k ≠ kv.ownBlock) w0 W W g s at_ deep v L wr := ⟨h.pi, Kept.refl _ _, h.below⟩
theorem QKI.freshP (h : QKI P w0 w W g s at_ deep v L wr kv ks) (hP : ∀ k, w.heap.size ≤ k → P k) : ∀ k, W.heap.size ≤ k → P k ∧ some k ≠ kv.ownBlock :=
  fun k hk => ⟨hP k (Nat.le_trans h.kept.1 hk), fun e => by have := Kd.R_lt h.kids k e.symm; omega⟩
/-- What comes back. -/
theorem QKI.back (h : QKI P w0 w W g s at_ deep v L wr kv ks) (k : QI (fun k => P k ∧ some k ≠ kv.ownBlock) w0 W W1 g s at' deep' v' L' wr') : QKI P w0 w W1 g s at' deep' v' L' wr' kv ks :=
  ⟨k.pi, Kd.R_reok rfl (Kd.R_kept (Kd.R_tight2 rfl h.kids) k.kept (fun k hk hS => hS.elim (fun e => hk.2.2 e) (fun hp => hp.2 hk.1))) (fun k hk => h.kids.1 k hk), Kept.go h.kept k.kept (fun _ hk => hk.1), k.below⟩
/-- A row of kids is made. -/
theorem QI.kids (h : QI P w0 w W g s at_ deep v L wr) (hP : ∀ k, w.heap.size ≤ k → P k) (ho : (Kd.int .i64).R 3 W1 W.heap.size (fun _ => True) kv ks) (hb : Below W.heap.size W W1) (hn : ∃ b, kv.ownBlock = some b ∧ W.heap.size ≤ b) : QKI P w0 w W1 g s at_ deep v L wr kv ks := by
  obtain ⟨b, hb1, hb2⟩ := hn
  refine ⟨?_, Kd.R_lower (Kd.R_reok rfl ho (fun k hk => ?_)) h.le, h.kept.below hb, below_step h.below hb⟩
  · exact (h.pi.bound.below hb).mono (fun k hk => ⟨hk.1, fun e => by rw [hb1] at e; injection e with e; have := hk.2; omega⟩)
  · rw [hb1] at hk
    injection hk with hk
    subst hk
    exact ⟨hP _ (Nat.le_trans h.kept.1 hb2), fun e => by have := h.pi.lt; omega⟩
/-- The row grew. -/
theorem QKI.grown (h : QKI P w0 w W g s at_ deep v L wr kv ks) (ho : (Kd.int .i64).R 3 W1 w0.heap.size (fun k => P k ∧ k ≠ g) kv1 ks1) (hb : Below w0.heap.size w0 W1) (hg : W.grownBy W1 kv.ownBlock) (hat : kv1.ownBlock = kv.ownBlock ∨ ∃ b, kv1.ownBlock = some b ∧ W.heap.size ≤ b) : QKI P w0 w W1 g s at_ deep v L wr kv1 ks1 := by
  have hgk : some g ≠ kv.ownBlock := fun e => (h.kids.1 g e.symm).2 rfl
  refine ⟨⟨h.pi.1.grown hg hgk, ?_⟩, ho, Kept.of_grown hg h.kept (fun k hk => .inl (.inr (h.kids.1 k hk).1)), hb⟩
  have h2 := Kd.S_after (ok := fun k => P k ∧ k ≠ g) (Kd.S_mono h.pi.2 (fun k hk => ⟨⟨hk.1.1, hk.2⟩, hk.1.2⟩)) hg hat
  exact Kd.S_mono h2 (fun k hk => ⟨⟨hk.1.1, hk.2⟩, hk.1.2⟩)
/-- The row is let go. -/
theorem QKI.drop (h : QKI P w0 w W g s at_ deep v L wr kv ks) : QI P w0 w W g s at_ deep v L wr := ⟨h.pi.mono (fun _ hk => hk.1), h.kept, h.below⟩
/-- A node with these kids joins. -/
theorem addk_q {x : S39} (h : QKI P w0 w W g s at_ deep v L wr kv ks) (hP : ∀ k, w.heap.size ≤ k → P k) (hl : L.length < 100000) (hx : x.f3 = ks) :
    Calls Try.prog 51 #[.pointer (some ⟨g, 0, none⟩), .agg #[.int .i64 x.f0, .bool x.f1, .string x.f2, kv]] W fun e W' => e = .returned (.int .i64 L.length) ∧ ∃ v', QI P w0 w W' g s at_ deep v' (L ++ [x]) (wr || decide ((200 : Int) < (L.length : Int) + 1)) := by
  refine (impl_add.calls P (fun k => some k = kv.ownBlock ∧ (P k ∧ k ≠ g)) w0 W g s at_ deep v L wr x kv (h.pi.mono (fun k hk => ⟨hk.1, fun e => hk.2 e.1⟩)) (by rw [hx]; exact Kd.R_tight2 rfl h.kids) (fun _ hk => hk.2) h.below (fun k hk => hP k (Nat.le_trans h.kept.1 hk)) hl).mono ?_
  rintro e W' ⟨he, hp⟩
  exact ⟨he, h.drop.go hp (fun _ hk => hk)⟩
end

structure QKS (P : Nat → Prop) (w0 w W : World) (g : Nat) (s : ByteArray) (at_ : Int) (v : Value) (L : List S39) (wr : Bool) (kv : Value) (ks : List Int) : Prop where
  pi : PS (fun k => P k ∧ some k ≠ kv.ownBlock) w0 W g s at_ v L wr
  kids : (Kd.int .i64).R 3 W w0.heap.size (fun k => P k ∧ k ≠ g) kv ks
  kept : Kept w W (fun k => k = g ∨ P k)
  below : Below w0.heap.size w0 W
section
variable {P P' : Nat → Prop} {w0 w W W1 : World} {g : Nat} {s : ByteArray} {at_ at' deep deep' : Int} {v v' kv kv1 : Value} {L L' : List S39} {wr wr' : Bool} {ks ks1 : List Int}
theorem QKS.le (h : QKS P w0 w W g s at_ v L wr kv ks) : w0.heap.size ≤ W.heap.size := h.below.size
theorem QKS.belowS (h : QKS P w0 w W g s at_ v L wr kv ks) (hb : Below W.heap.size W W1) : QKS P w0 w W1 g s at_ v L wr kv ks := ⟨h.pi.below hb, Kd.R_below h.kids hb, h.kept.below hb, below_step h.below hb⟩
theorem QKS.alloc (h : QKS P w0 w W g s at_ v L wr kv ks) (o : Obj) : QKS P w0 w (W.alloc o) g s at_ v L wr kv ks := h.belowS (below_alloc (Below.refl _ _) o)
theorem QKS.drewN (h : QKS P w0 w W g s at_ v L wr kv ks) (m : Nat) : QKS P w0 w (W.drewN m) g s at_ v L wr kv ks := h.belowS (pw_below_drewN (Below.refl _ _) m)
theorem QKS.drew (h : QKS P w0 w W g s at_ v L wr kv ks) : QKS P w0 w W.drew g s at_ v L wr kv ks := h.belowS (below_drew (Below.refl _ _))
theorem QKS.set1 (h : QKS P w0 w W g s at_ v L wr kv ks) (x : Int) : QKS P w0 w (W.setCell ⟨g, 1, none⟩ (.int .i64 x)) g s x v L wr kv ks := ⟨h.pi.set1 x, Kd.R_far h.kids (fun _ hk => hk.2) _, Kept.setG h.kept _, below_set h.below h.pi.ge⟩
/-- What a callee is given: a state of which the kids' row is no part; nothing is written yet. -/
theorem QKS.give (h : QKS P w0 w W g s at_ v L wr kv ks) : QS (fun k => P k ∧ some k ≠ kv.ownBlock) w0 W W g s at_ v L wr := ⟨h.pi, Kept.refl _ _, h.below⟩
theorem QKS.freshP (h : QKS P w0 w W g s at_ v L wr kv ks) (hP : ∀ k, w.heap.size ≤ k → P k) : ∀ k, W.heap.size ≤ k → P k ∧ some k ≠ kv.ownBlock :=
  fun k hk => ⟨hP k (Nat.le_trans h.kept.1 hk), fun e => by have := Kd.R_lt h.kids k e.symm; omega⟩
/-- What comes back. -/
theorem QKS.back (h : QKS P w0 w W g s at_ v L wr kv ks) (k : QS (fun k => P k ∧ some k ≠ kv.ownBlock) w0 W W1 g s at' v' L' wr') : QKS P w0 w W1 g s at' v' L' wr' kv ks :=
  ⟨k.pi, Kd.R_reok rfl (Kd.R_kept (Kd.R_tight2 rfl h.kids) k.kept (fun k hk hS => hS.elim (fun e => hk.2.2 e) (fun hp => hp.2 hk.1))) (fun k hk => h.kids.1 k hk), Kept.go h.kept k.kept (fun _ hk => hk.1), k.below⟩
/-- A row of kids is made. -/
theorem QS.kids (h : QS P w0 w W g s at_ v L wr) (hP : ∀ k, w.heap.size ≤ k → P k) (ho : (Kd.int .i64).R 3 W1 W.heap.size (fun _ => True) kv ks) (hb : Below W.heap.size W W1) (hn : ∃ b, kv.ownBlock = some b ∧ W.heap.size ≤ b) : QKS P w0 w W1 g s at_ v L wr kv ks := by
  obtain ⟨b, hb1, hb2⟩ := hn
  refine ⟨?_, Kd.R_lower (Kd.R_reok rfl ho (fun k hk => ?_)) h.le, h.kept.below hb, below_step h.below hb⟩
  · exact (h.pi.bound.below hb).mono (fun k hk => ⟨hk.1, fun e => by rw [hb1] at e; injection e with e; have := hk.2; omega⟩)
  · rw [hb1] at hk
    injection hk with hk
    subst hk
    exact ⟨hP _ (Nat.le_trans h.kept.1 hb2), fun e => by have := h.pi.lt; omega⟩
/-- The row grew. -/
theorem QKS.grown (h : QKS P w0 w W g s at_ v L wr kv ks) (ho : (Kd.int .i64).R 3 W1 w0.heap.size (fun k => P k ∧ k ≠ g) kv1 ks1) (hb : Below w0.heap.size w0 W1) (hg : W.grownBy W1 kv.ownBlock) (hat : kv1.ownBlock = kv.ownBlock ∨ ∃ b, kv1.ownBlock = some b ∧ W.heap.size ≤ b) : QKS P w0 w W1 g s at_ v L wr kv1 ks1 := by
  have hgk : some g ≠ kv.ownBlock := fun e => (h.kids.1 g e.symm).2 rfl
  refine ⟨⟨h.pi.1.grown hg hgk, ?_⟩, ho, Kept.of_grown hg h.kept (fun k hk => .inl (.inr (h.kids.1 k hk).1)), hb⟩
  have h2 := Kd.S_after (ok := fun k => P k ∧ k ≠ g) (Kd.S_mono h.pi.2 (fun k hk => ⟨⟨hk.1.1, hk.2⟩, hk.1.2⟩)) hg hat
  exact Kd.S_mono h2 (fun k hk => ⟨⟨hk.1.1, hk.2⟩, hk.1.2⟩)
/-- The row is let go. -/
theorem QKS.drop (h : QKS P w0 w W g s at_ v L wr kv ks) : QS P w0 w W g s at_ v L wr := ⟨h.pi.mono (fun _ hk => hk.1), h.kept, h.below⟩
/-- A node with these kids joins. -/
theorem nodek_q {x : S39} (h : QKS P w0 w W g s at_ v L wr kv ks) (hP : ∀ k, w.heap.size ≤ k → P k) (hl : L.length < 100000) (hx : x.f3 = ks) :
    Calls Try.prog 42 #[.pointer (some ⟨g, 0, none⟩), .agg #[.int .i64 x.f0, .bool x.f1, .string x.f2, kv]] W fun e W' => e = .returned (.int .i64 L.length) ∧ ∃ v', QS P w0 w W' g s at_ v' (L ++ [x]) wr := by
  refine (spec_l2node.calls P (fun k => some k = kv.ownBlock ∧ (P k ∧ k ≠ g)) w0 W g s at_ v L wr x kv (h.pi.mono (fun k hk => ⟨hk.1, fun e => hk.2 e.1⟩)) (by rw [hx]; exact Kd.R_tight2 rfl h.kids) (fun _ hk => hk.2) h.below (fun k hk => hP k (Nat.le_trans h.kept.1 hk)) hl).mono ?_
  rintro e W' ⟨he, hp⟩
  exact ⟨he, h.drop.go hp (fun _ hk => hk)⟩
end

structure QCI (P : Nat → Prop) (w0 w W : World) (g : Nat) (s : ByteArray) (at_ deep : Int) (v : Value) (L : List S39) (wr : Bool) (gb : Nat) (neg : Bool) (sv : Value) (set : List Int) : Prop where
  pi : PI (fun k => (P k ∧ k ≠ gb) ∧ some k ≠ sv.ownBlock) w0 W g s at_ deep v L wr
  row : (Kd.int .u8).R 5 W w0.heap.size (fun k => (P k ∧ k ≠ gb) ∧ k ≠ g) sv set
  box : W.heap[gb]? = some (.cells #[.int .i64 0, .bool neg, .string ⟨#[]⟩, .slice none 0 0] 39 (0, 0))
  hgb : gb ≠ g
  hge : w0.heap.size ≤ gb
  hP : P gb
  kept : Kept w W (fun k => k = g ∨ P k)
  below : Below w0.heap.size w0 W
section
variable {P P' : Nat → Prop} {w0 w W W1 : World} {g gb : Nat} {s : ByteArray} {at_ at' deep deep' : Int} {v v' sv sv1 : Value} {L L' : List S39} {wr wr' neg : Bool} {set xs1 : List Int}
theorem QCI.facts (h : QCI P w0 w W g s at_ deep v L wr gb neg sv set) : W.cell? ⟨gb, 0, none⟩ = some (.int .i64 0) ∧ W.cell? ⟨gb, 1, none⟩ = some (.bool neg) ∧ W.cell? ⟨gb, 2, none⟩ = some (.string ⟨#[]⟩) ∧ W.cell? ⟨gb, 3, none⟩ = some (.slice none 0 0) := ⟨(blk_cell h.box 0).trans rfl, (blk_cell h.box 1).trans rfl, (blk_cell h.box 2).trans rfl, (blk_cell h.box 3).trans rfl⟩
theorem QCI.le (h : QCI P w0 w W g s at_ deep v L wr gb neg sv set) : w0.heap.size ≤ W.heap.size := h.below.size
theorem QCI.belowS (h : QCI P w0 w W g s at_ deep v L wr gb neg sv set) (hb : Below W.heap.size W W1) : QCI P w0 w W1 g s at_ deep v L wr gb neg sv set := ⟨h.pi.below hb, Kd.R_below h.row hb, blk_below h.box hb, h.hgb, h.hge, h.hP, h.kept.below hb, below_step h.below hb⟩
theorem QCI.alloc (h : QCI P w0 w W g s at_ deep v L wr gb neg sv set) (o : Obj) : QCI P w0 w (W.alloc o) g s at_ deep v L wr gb neg sv set := h.belowS (below_alloc (Below.refl _ _) o)
theorem QCI.drewN (h : QCI P w0 w W g s at_ deep v L wr gb neg sv set) (m : Nat) : QCI P w0 w (W.drewN m) g s at_ deep v L wr gb neg sv set := h.belowS (pw_below_drewN (Below.refl _ _) m)
theorem QCI.drew (h : QCI P w0 w W g s at_ deep v L wr gb neg sv set) : QCI P w0 w W.drew g s at_ deep v L wr gb neg sv set := h.belowS (below_drew (Below.refl _ _))
theorem QCI.set1 (h : QCI P w0 w W g s at_ deep v L wr gb neg sv set) (x : Int) : QCI P w0 w (W.setCell ⟨g, 1, none⟩ (.int .i64 x)) g s x deep v L wr gb neg sv set := ⟨h.pi.set1 x, Kd.R_far h.row (fun _ hk => hk.2) _, blk_far h.box h.hgb _, h.hgb, h.hge, h.hP, Kept.setG h.kept _, below_set h.below h.pi.ge⟩
theorem QCI.setW (h : QCI P w0 w W g s at_ deep v L wr gb neg sv set) (x : Bool) : QCI P w0 w (W.setCell ⟨g, 4, none⟩ (.bool x)) g s at_ deep v L x gb neg sv set := ⟨h.pi.set4 x, Kd.R_far h.row (fun _ hk => hk.2) _, blk_far h.box h.hgb _, h.hgb, h.hge, h.hP, Kept.setG h.kept _, below_set h.below h.pi.ge⟩
theorem QCI.setN (h : QCI P w0 w W g s at_ deep v L wr gb neg sv set) (x : Bool) : QCI P w0 w (W.setCell ⟨gb, 1, none⟩ (.bool x)) g s at_ deep v L wr gb x sv set :=
  ⟨h.pi.far (p := ⟨gb, 1, none⟩) (fun hk => hk.1.2 rfl) (fun e => h.hgb e.symm) _, Kd.R_far h.row (p := ⟨gb, 1, none⟩) (fun _ hk => hk.1.2) _, blk_put (cs := #[.int .i64 0, .bool neg, .string ⟨#[]⟩, .slice none 0 0]) h.box 1 _ rfl, h.hgb, h.hge, h.hP, h.kept.setCell (p := ⟨gb, 1, none⟩) (.inl (.inr h.hP)) _, below_set h.below h.hge⟩
theorem QCI.setB0 (h : QCI P w0 w W g s at_ deep v L wr gb neg sv set) : QCI P w0 w (W.setCell ⟨gb, 0, none⟩ (.int .i64 0)) g s at_ deep v L wr gb neg sv set :=
  ⟨h.pi.far (p := ⟨gb, 0, none⟩) (fun hk => hk.1.2 rfl) (fun e => h.hgb e.symm) _, Kd.R_far h.row (p := ⟨gb, 0, none⟩) (fun _ hk => hk.1.2) _, blk_put (cs := #[.int .i64 0, .bool neg, .string ⟨#[]⟩, .slice none 0 0]) h.box 0 _ rfl, h.hgb, h.hge, h.hP, h.kept.setCell (p := ⟨gb, 0, none⟩) (.inl (.inr h.hP)) _, below_set h.below h.hge⟩
theorem QCI.setB2 (h : QCI P w0 w W g s at_ deep v L wr gb neg sv set) : QCI P w0 w (W.setCell ⟨gb, 2, none⟩ (.string ⟨#[]⟩)) g s at_ deep v L wr gb neg sv set :=
  ⟨h.pi.far (p := ⟨gb, 2, none⟩) (fun hk => hk.1.2 rfl) (fun e => h.hgb e.symm) _, Kd.R_far h.row (p := ⟨gb, 2, none⟩) (fun _ hk => hk.1.2) _, blk_put (cs := #[.int .i64 0, .bool neg, .string ⟨#[]⟩, .slice none 0 0]) h.box 2 _ rfl, h.hgb, h.hge, h.hP, h.kept.setCell (p := ⟨gb, 2, none⟩) (.inl (.inr h.hP)) _, below_set h.below h.hge⟩
theorem QCI.setB3 (h : QCI P w0 w W g s at_ deep v L wr gb neg sv set) : QCI P w0 w (W.setCell ⟨gb, 3, none⟩ (.slice none 0 0)) g s at_ deep v L wr gb neg sv set :=
  ⟨h.pi.far (p := ⟨gb, 3, none⟩) (fun hk => hk.1.2 rfl) (fun e => h.hgb e.symm) _, Kd.R_far h.row (p := ⟨gb, 3, none⟩) (fun _ hk => hk.1.2) _, blk_put (cs := #[.int .i64 0, .bool neg, .string ⟨#[]⟩, .slice none 0 0]) h.box 3 _ rfl, h.hgb, h.hge, h.hP, h.kept.setCell (p := ⟨gb, 3, none⟩) (.inl (.inr h.hP)) _, below_set h.below h.hge⟩
theorem QCI.give (h : QCI P w0 w W g s at_ deep v L wr gb neg sv set) : QI (fun k => (P k ∧ k ≠ gb) ∧ some k ≠ sv.ownBlock) w0 W W g s at_ deep v L wr := ⟨h.pi, Kept.refl _ _, h.below⟩
theorem QCI.back (h : QCI P w0 w W g s at_ deep v L wr gb neg sv set) (k : QI (fun k => (P k ∧ k ≠ gb) ∧ some k ≠ sv.ownBlock) w0 W W1 g s at' deep' v' L' wr') : QCI P w0 w W1 g s at' deep' v' L' wr' gb neg sv set :=
  ⟨k.pi, Kd.R_reok rfl (Kd.R_kept (Kd.R_tight2 rfl h.row) k.kept (fun k hk hS => hS.elim (fun e => hk.2.2 e) (fun hp => hp.2 hk.1))) (fun k hk => h.row.1 k hk), blk_kept h.box k.kept (fun hS => hS.elim h.hgb (fun hp => hp.1.2 rfl)), h.hgb, h.hge, h.hP, Kept.go h.kept k.kept (fun _ hk => hk.1.1), k.below⟩
theorem QCI.grown (h : QCI P w0 w W g s at_ deep v L wr gb neg sv set) (ho : (Kd.int .u8).R 5 W1 w0.heap.size (fun k => (P k ∧ k ≠ gb) ∧ k ≠ g) sv1 xs1) (hb : Below w0.heap.size w0 W1) (hg : W.grownBy W1 sv.ownBlock) (hat : sv1.ownBlock = sv.ownBlock ∨ ∃ b, sv1.ownBlock = some b ∧ W.heap.size ≤ b) : QCI P w0 w W1 g s at_ deep v L wr gb neg sv1 xs1 := by
  have hgk : some g ≠ sv.ownBlock := fun e => (h.row.1 g e.symm).2 rfl
  have hgk2 : some gb ≠ sv.ownBlock := fun e => (h.row.1 gb e.symm).1.2 rfl
  refine ⟨⟨h.pi.1.grown hg hgk, ?_⟩, ho, blk_grown h.box hg hgk2, h.hgb, h.hge, h.hP, Kept.of_grown hg h.kept (fun k hk => .inl (.inr (h.row.1 k hk).1.1)), hb⟩
  have h2 := Kd.S_after (ok := fun k => (P k ∧ k ≠ gb) ∧ k ≠ g) (Kd.S_mono h.pi.2 (fun k hk => ⟨⟨hk.1.1, hk.2⟩, hk.1.2⟩)) hg hat
  exact Kd.S_mono h2 (fun k hk => ⟨⟨hk.1.1, hk.2⟩, hk.1.2⟩)
/-- The row is let go; the box stays. -/
theorem QCI.drop (h : QCI P w0 w W g s at_ deep v L wr gb neg sv set) : QI P w0 w W g s at_ deep v L wr := ⟨h.pi.mono (fun _ hk => hk.1.1), h.kept, h.below⟩
theorem QCI.fill (h : QCI P w0 w W g s at_ deep v L wr gb neg sv set) (st : ByteArray) : QI P w0 w (W.setCell ⟨gb, 2, none⟩ (.string st)) g s at_ deep v L wr ∧ (W.setCell ⟨gb, 2, none⟩ (.string st)).heap[gb]? = some (.cells #[.int .i64 0, .bool neg, .string st, .slice none 0 0] 39 (0, 0)) :=
  ⟨⟨(h.pi.far (p := ⟨gb, 2, none⟩) (fun hk => hk.1.2 rfl) (fun e => h.hgb e.symm) _).mono (fun _ hk => hk.1.1), h.kept.setCell (p := ⟨gb, 2, none⟩) (.inl (.inr h.hP)) _, below_set h.below h.hge⟩, blk_put (cs := #[.int .i64 0, .bool neg, .string ⟨#[]⟩, .slice none 0 0]) h.box 2 _ rfl⟩
/-- The box and an empty row of bytes are made. -/
theorem QI.cls (h : QI P w0 w W g s at_ deep v L wr) (hP : ∀ k, w.heap.size ≤ k → P k) (ho : (Kd.int .u8).R 5 W1 w0.heap.size (fun k => w.heap.size ≤ k ∧ k ≠ gb ∧ k ≠ g) sv set) (hb : Below W.heap.size W W1) (hgb : W.heap.size ≤ gb) (hbox : W1.heap[gb]? = some (.cells #[.int .i64 0, .bool neg, .string ⟨#[]⟩, .slice none 0 0] 39 (0, 0)))
    (hn : ∀ k, sv.ownBlock = some k → W.heap.size ≤ k) : QCI P w0 w W1 g s at_ deep v L wr gb neg sv set := by
  refine ⟨(h.pi.bound.below hb).mono (fun k hk => ⟨⟨hk.1, fun e => by have := hk.2; omega⟩, fun e => by have := hn k e.symm; have := hk.2; omega⟩), Kd.R_mono ho (fun k hk => ⟨⟨hP k hk.1, hk.2.1⟩, hk.2.2⟩), hbox, fun e => by have := h.pi.lt; omega, Nat.le_trans h.le hgb, hP _ (Nat.le_trans h.kept.1 hgb), h.kept.below hb, below_step h.below hb⟩
end

structure QCS (P : Nat → Prop) (w0 w W : World) (g : Nat) (s : ByteArray) (at_ : Int) (v : Value) (L : List S39) (wr : Bool) (gb : Nat) (neg : Bool) (sv : Value) (set : List Int) : Prop where
  pi : PS (fun k => (P k ∧ k ≠ gb) ∧ some k ≠ sv.ownBlock) w0 W g s at_ v L wr
  row : (Kd.int .u8).R 5 W w0.heap.size (fun k => (P k ∧ k ≠ gb) ∧ k ≠ g) sv set
  box : W.heap[gb]? = some (.cells #[.int .i64 0, .bool neg, .string ⟨#[]⟩, .slice none 0 0] 39 (0, 0))
  hgb : gb ≠ g
  hge : w0.heap.size ≤ gb
  hP : P gb
  kept : Kept w W (fun k => k = g ∨ P k)
  below : Below w0.heap.size w0 W
section
variable {P P' : Nat → Prop} {w0 w W W1 : World} {g gb : Nat} {s : ByteArray} {at_ at' deep deep' : Int} {v v' sv sv1 : Value} {L L' : List S39} {wr wr' neg : Bool} {set xs1 : List Int}
theorem QCS.facts (h : QCS P w0 w W g s at_ v L wr gb neg sv set) : W.cell? ⟨gb, 0, none⟩ = some (.int .i64 0) ∧ W.cell? ⟨gb, 1, none⟩ = some (.bool neg) ∧ W.cell? ⟨gb, 2, none⟩ = some (.string ⟨#[]⟩) ∧ W.cell? ⟨gb, 3, none⟩ = some (.slice none 0 0) := ⟨(blk_cell h.box 0).trans rfl, (blk_cell h.box 1).trans rfl, (blk_cell h.box 2).trans rfl, (blk_cell h.box 3).trans rfl⟩
theorem QCS.le (h : QCS P w0 w W g s at_ v L wr gb neg sv set) : w0.heap.size ≤ W.heap.size := h.below.size
theorem QCS.belowS (h : QCS P w0 w W g s at_ v L wr gb neg sv set) (hb : Below W.heap.size W W1) : QCS P w0 w W1 g s at_ v L wr gb neg sv set := ⟨h.pi.below hb, Kd.R_below h.row hb, blk_below h.box hb, h.hgb, h.hge, h.hP, h.kept.below hb, below_step h.below hb⟩
theorem QCS.alloc (h : QCS P w0 w W g s at_ v L wr gb neg sv set) (o : Obj) : QCS P w0 w (W.alloc o) g s at_ v L wr gb neg sv set := h.belowS (below_alloc (Below.refl _ _) o)
theorem QCS.drewN (h : QCS P w0 w W g s at_ v L wr gb neg sv set) (m : Nat) : QCS P w0 w (W.drewN m) g s at_ v L wr gb neg sv set := h.belowS (pw_below_drewN (Below.refl _ _) m)
theorem QCS.drew (h : QCS P w0 w W g s at_ v L wr gb neg sv set) : QCS P w0 w W.drew g s at_ v L wr gb neg sv set := h.belowS (below_drew (Below.refl _ _))
theorem QCS.set1 (h : QCS P w0 w W g s at_ v L wr gb neg sv set) (x : Int) : QCS P w0 w (W.setCell ⟨g, 1, none⟩ (.int .i64 x)) g s x v L wr gb neg sv set := ⟨h.pi.set1 x, Kd.R_far h.row (fun _ hk => hk.2) _, blk_far h.box h.hgb _, h.hgb, h.hge, h.hP, Kept.setG h.kept _, below_set h.below h.pi.ge⟩
theorem QCS.setW (h : QCS P w0 w W g s at_ v L wr gb neg sv set) (x : Bool) : QCS P w0 w (W.setCell ⟨g, 3, none⟩ (.bool x)) g s at_ v L x gb neg sv set := ⟨h.pi.set3 x, Kd.R_far h.row (fun _ hk => hk.2) _, blk_far h.box h.hgb _, h.hgb, h.hge, h.hP, Kept.setG h.kept _, below_set h.below h.pi.ge⟩
theorem QCS.setN (h : QCS P w0 w W g s at_ v L wr gb neg sv set) (x : Bool) : QCS P w0 w (W.setCell ⟨gb, 1, none⟩ (.bool x)) g s at_ v L wr gb x sv set :=
  ⟨h.pi.far (p := ⟨gb, 1, none⟩) (fun hk => hk.1.2 rfl) (fun e => h.hgb e.symm) _, Kd.R_far h.row (p := ⟨gb, 1, none⟩) (fun _ hk => hk.1.2) _, blk_put (cs := #[.int .i64 0, .bool neg, .string ⟨#[]⟩, .slice none 0 0]) h.box 1 _ rfl, h.hgb, h.hge, h.hP, h.kept.setCell (p := ⟨gb, 1, none⟩) (.inl (.inr h.hP)) _, below_set h.below h.hge⟩
theorem QCS.setB0 (h : QCS P w0 w W g s at_ v L wr gb neg sv set) : QCS P w0 w (W.setCell ⟨gb, 0, none⟩ (.int .i64 0)) g s at_ v L wr gb neg sv set :=
  ⟨h.pi.far (p := ⟨gb, 0, none⟩) (fun hk => hk.1.2 rfl) (fun e => h.hgb e.symm) _, Kd.R_far h.row (p := ⟨gb, 0, none⟩) (fun _ hk => hk.1.2) _, blk_put (cs := #[.int .i64 0, .bool neg, .string ⟨#[]⟩, .slice none 0 0]) h.box 0 _ rfl, h.hgb, h.hge, h.hP, h.kept.setCell (p := ⟨gb, 0, none⟩) (.inl (.inr h.hP)) _, below_set h.below h.hge⟩
theorem QCS.setB2 (h : QCS P w0 w W g s at_ v L wr gb neg sv set) : QCS P w0 w (W.setCell ⟨gb, 2, none⟩ (.string ⟨#[]⟩)) g s at_ v L wr gb neg sv set :=
  ⟨h.pi.far (p := ⟨gb, 2, none⟩) (fun hk => hk.1.2 rfl) (fun e => h.hgb e.symm) _, Kd.R_far h.row (p := ⟨gb, 2, none⟩) (fun _ hk => hk.1.2) _, blk_put (cs := #[.int .i64 0, .bool neg, .string ⟨#[]⟩, .slice none 0 0]) h.box 2 _ rfl, h.hgb, h.hge, h.hP, h.kept.setCell (p := ⟨gb, 2, none⟩) (.inl (.inr h.hP)) _, below_set h.below h.hge⟩
theorem QCS.setB3 (h : QCS P w0 w W g s at_ v L wr gb neg sv set) : QCS P w0 w (W.setCell ⟨gb, 3, none⟩ (.slice none 0 0)) g s at_ v L wr gb neg sv set :=
  ⟨h.pi.far (p := ⟨gb, 3, none⟩) (fun hk => hk.1.2 rfl) (fun e => h.hgb e.symm) _, Kd.R_far h.row (p := ⟨gb, 3, none⟩) (fun _ hk => hk.1.2) _, blk_put (cs := #[.int .i64 0, .bool neg, .string ⟨#[]⟩, .slice none 0 0]) h.box 3 _ rfl, h.hgb, h.hge, h.hP, h.kept.setCell (p := ⟨gb, 3, none⟩) (.inl (.inr h.hP)) _, below_set h.below h.hge⟩
theorem QCS.give (h : QCS P w0 w W g s at_ v L wr gb neg sv set) : QS (fun k => (P k ∧ k ≠ gb) ∧ some k ≠ sv.ownBlock) w0 W W g s at_ v L wr := ⟨h.pi, Kept.refl _ _, h.below⟩
theorem QCS.back (h : QCS P w0 w W g s at_ v L wr gb neg sv set) (k : QS (fun k => (P k ∧ k ≠ gb) ∧ some k ≠ sv.ownBlock) w0 W W1 g s at' v' L' wr') : QCS P w0 w W1 g s at' v' L' wr' gb neg sv set :=
  ⟨k.pi, Kd.R_reok rfl (Kd.R_kept (Kd.R_tight2 rfl h.row) k.kept (fun k hk hS => hS.elim (fun e => hk.2.2 e) (fun hp => hp.2 hk.1))) (fun k hk => h.row.1 k hk), blk_kept h.box k.kept (fun hS => hS.elim h.hgb (fun hp => hp.1.2 rfl)), h.hgb, h.hge, h.hP, Kept.go h.kept k.kept (fun _ hk => hk.1.1), k.below⟩
theorem QCS.grown (h : QCS P w0 w W g s at_ v L wr gb neg sv set) (ho : (Kd.int .u8).R 5 W1 w0.heap.size (fun k => (P k ∧ k ≠ gb) ∧ k ≠ g) sv1 xs1) (hb : Below w0.heap.size w0 W1) (hg : W.grownBy W1 sv.ownBlock) (hat : sv1.ownBlock = sv.ownBlock ∨ ∃ b, sv1.ownBlock = some b ∧ W.heap.size ≤ b) : QCS P w0 w W1 g s at_ v L wr gb neg sv1 xs1 := by
  have hgk : some g ≠ sv.ownBlock := fun e => (h.row.1 g e.symm).2 rfl
  have hgk2 : some gb ≠ sv.ownBlock := fun e => (h.row.1 gb e.symm).1.2 rfl
  refine ⟨⟨h.pi.1.grown hg hgk, ?_⟩, ho, blk_grown h.box hg hgk2, h.hgb, h.hge, h.hP, Kept.of_grown hg h.kept (fun k hk => .inl (.inr (h.row.1 k hk).1.1)), hb⟩
  have h2 := Kd.S_after (ok := fun k => (P k ∧ k ≠ gb) ∧ k ≠ g) (Kd.S_mono h.pi.2 (fun k hk => ⟨⟨hk.1.1, hk.2⟩, hk.1.2⟩)) hg hat
  exact Kd.S_mono h2 (fun k hk => ⟨⟨hk.1.1, hk.2⟩, hk.1.2⟩)
/-- The row is let go; the box stays. -/
theorem QCS.drop (h : QCS P w0 w W g s at_ v L wr gb neg sv set) : QS P w0 w W g s at_ v L wr := ⟨h.pi.mono (fun _ hk => hk.1.1), h.kept, h.below⟩
theorem QCS.fill (h : QCS P w0 w W g s at_ v L wr gb neg sv set) (st : ByteArray) : QS P w0 w (W.setCell ⟨gb, 2, none⟩ (.string st)) g s at_ v L wr ∧ (W.setCell ⟨gb, 2, none⟩ (.string st)).heap[gb]? = some (.cells #[.int .i64 0, .bool neg, .string st, .slice none 0 0] 39 (0, 0)) :=
  ⟨⟨(h.pi.far (p := ⟨gb, 2, none⟩) (fun hk => hk.1.2 rfl) (fun e => h.hgb e.symm) _).mono (fun _ hk => hk.1.1), h.kept.setCell (p := ⟨gb, 2, none⟩) (.inl (.inr h.hP)) _, below_set h.below h.hge⟩, blk_put (cs := #[.int .i64 0, .bool neg, .string ⟨#[]⟩, .slice none 0 0]) h.box 2 _ rfl⟩
/-- The box and an empty row of bytes are made. -/
theorem QS.cls (h : QS P w0 w W g s at_ v L wr) (hP : ∀ k, w.heap.size ≤ k → P k) (ho : (Kd.int .u8).R 5 W1 w0.heap.size (fun k => w.heap.size ≤ k ∧ k ≠ gb ∧ k ≠ g) sv set) (hb : Below W.heap.size W W1) (hgb : W.heap.size ≤ gb) (hbox : W1.heap[gb]? = some (.cells #[.int .i64 0, .bool neg, .string ⟨#[]⟩, .slice none 0 0] 39 (0, 0)))
    (hn : ∀ k, sv.ownBlock = some k → W.heap.size ≤ k) : QCS P w0 w W1 g s at_ v L wr gb neg sv set := by
  refine ⟨(h.pi.bound.below hb).mono (fun k hk => ⟨⟨hk.1, fun e => by have := hk.2; omega⟩, fun e => by have := hn k e.symm; have := hk.2; omega⟩), Kd.R_mono ho (fun k hk => ⟨⟨hP k hk.1, hk.2.1⟩, hk.2.2⟩), hbox, fun e => by have := h.pi.lt; omega, Nat.le_trans h.le hgb, hP _ (Nat.le_trans h.kept.1 hgb), h.kept.below hb, below_step h.below hb⟩
end

/-! ### the program's -/
def iAdd (σ : IS) (x : S39) : Option (Int × IS) := if σ.L.length < 100000 then some ((σ.L.length : Int), ⟨σ.at_, σ.deep, σ.L ++ [x], σ.wr || decide ((200 : Int) < (σ.L.length : Int) + 1)⟩) else none
def iJoined (kind : Int) (ks : List Int) (σ : IS) : Option (Int × IS) := if (ks.length : Int) = 1 then some (rd ks 0, σ) else iAdd σ ⟨kind, false, ⟨#[]⟩, ks⟩
def iSingle (c : Int) (σ : IS) : Option (Int × IS) := iAdd σ ⟨0, false, strOfNums [c, c], []⟩
def iRepL (s : ByteArray) : Nat → Int → IS → Option (Int × IS)
  | 0, _, _ => none
  | n + 1, out, σ => if σ.wr = true then some (out, σ) else
      (iSees s σ.at_ ⟨#[42, 43, 63]⟩).bind fun b => if b = true then
        (iNext s σ.at_ σ.wr).bind fun r => (iAdd ⟨r.2.1, σ.deep, σ.L, r.2.2⟩ ⟨wrap64 (5 + Lib.indexByte [42, 43, 63] r.1.toNat.toUInt8), false, ⟨#[]⟩, [out]⟩).bind fun q => iRepL s n q.1 q.2
      else some (out, σ)
def iRep (s : ByteArray) (A : IS → Option (Int × IS)) (n : Nat) (σ : IS) : Option (Int × IS) := (A σ).bind fun r => iRepL s n r.1 r.2
def iPartL (s : ByteArray) (R : IS → Option (Int × IS)) : Nat → List Int → IS → Option (Int × IS)
  | 0, _, _ => none
  | n + 1, ks, σ => if σ.wr = true then iJoined 3 ks σ else if σ.at_ < (s.size : Int) then
      (iSees s σ.at_ ⟨#[124, 41]⟩).bind fun b => if b = true then iJoined 3 ks σ else if ks.length < 100000 then (R σ).bind fun r => iPartL s R n (ks ++ [r.1]) r.2 else none
    else iJoined 3 ks σ
def iPart (s : ByteArray) (R : IS → Option (Int × IS)) (n : Nat) (σ : IS) : Option (Int × IS) := (R σ).bind fun r => iPartL s R n [r.1] r.2
def iWholeL (s : ByteArray) (Pt : IS → Option (Int × IS)) : Nat → List Int → IS → Option (Int × IS)
  | 0, _, _ => none
  | n + 1, ks, σ => if σ.wr = true then iJoined 4 ks σ else
      (iSees s σ.at_ ⟨#[124]⟩).bind fun b => if b = true then (if ks.length < 100000 then (Pt ⟨wrap64 (σ.at_ + 1), σ.deep, σ.L, σ.wr⟩).bind fun r => iWholeL s Pt n (ks ++ [r.1]) r.2 else none) else iJoined 4 ks σ
def iWholeB (s : ByteArray) (Pt : IS → Option (Int × IS)) (n : Nat) (σ : IS) : Option (Int × IS) := (Pt σ).bind fun r => iWholeL s Pt n [r.1] r.2
def iClsE (neg : Bool) (set : List Int) (σ : IS) : Option (Int × IS) := iAdd ⟨wrap64 (σ.at_ + 1), σ.deep, σ.L, σ.wr⟩ ⟨0, neg, strOfNums set, []⟩
def iClsS (σ : IS) (low high : Int) : IS := ⟨σ.at_, σ.deep, σ.L, σ.wr || decide (high < low)⟩
def iClsT (s : ByteArray) (a : Int) : Option Bool :=
  (iSees s a ⟨#[45]⟩).bind fun b => if b = true then (if wrap64 (a + 1) < (s.size : Int) then (if 0 ≤ wrap64 (a + 1) then some (bt s (wrap64 (a + 1)) != 93) else none) else some false) else some false
def iClsH (s : ByteArray) (low : Int) (σ : IS) : Option (Int × IS) :=
  (iClsT s σ.at_).bind fun b => if b = true then (iItem s (wrap64 (σ.at_ + 1)) σ.wr).bind fun r => some (r.1, ⟨r.2.1, σ.deep, σ.L, r.2.2⟩) else some (low, σ)
def iClsC (s : ByteArray) (set : List Int) (σ : IS) : Option Bool :=
  if σ.wr = true then some false else if (set.length : Int) = 0 then some true else (iSees s σ.at_ ⟨#[93]⟩).bind fun b => some (!b)
def iClsL (s : ByteArray) (neg : Bool) : Nat → List Int → IS → Option (Int × IS)
  | 0, _, _ => none
  | n + 1, set, σ => (iClsC s set σ).bind fun b => if b = true then (if set.length < 100000 then
        (iItem s σ.at_ σ.wr).bind fun r => (iClsH s r.1 ⟨r.2.1, σ.deep, σ.L, r.2.2⟩).bind fun q => iClsL s neg n (set ++ [r.1, q.1]) (iClsS q.2 r.1 q.1) else none) else iClsE neg set σ
def iClass (s : ByteArray) (n : Nat) (σ : IS) : Option (Int × IS) :=
  (iSees s σ.at_ ⟨#[94]⟩).bind fun b => if b = true then iClsL s true n [] ⟨wrap64 (σ.at_ + 1), σ.deep, σ.L, σ.wr⟩ else iClsL s false n [] σ
def iAtom (s : ByteArray) (Wh : IS → Option (Int × IS)) (n : Nat) (σ : IS) : Option (Int × IS) :=
  (iNext s σ.at_ σ.wr).bind fun r =>
    if r.1 = 40 then
      (if wrap64 (σ.deep + 1) > 20 then some (0, ⟨r.2.1, wrap64 (σ.deep + 1), σ.L, true⟩) else if r.2.2 = true then some (0, ⟨r.2.1, wrap64 (σ.deep + 1), σ.L, true⟩) else
        (Wh ⟨r.2.1, wrap64 (σ.deep + 1), σ.L, r.2.2⟩).bind fun q => if q.2.wr = true then some (q.1, ⟨q.2.at_, wrap64 (q.2.deep - 1), q.2.L, true⟩) else
          (iNext s q.2.at_ q.2.wr).bind fun t => some (q.1, ⟨t.2.1, wrap64 (q.2.deep - 1), q.2.L, t.1 != 41⟩))
    else if r.1 = 94 then iAdd ⟨r.2.1, σ.deep, σ.L, r.2.2⟩ ⟨1, false, ⟨#[]⟩, []⟩
    else if r.1 = 36 then iAdd ⟨r.2.1, σ.deep, σ.L, r.2.2⟩ ⟨2, false, ⟨#[]⟩, []⟩
    else if r.1 = 46 then iAdd ⟨r.2.1, σ.deep, σ.L, r.2.2⟩ ⟨0, true, ⟨#[]⟩, []⟩
    else if r.1 = 91 then iClass s n ⟨r.2.1, σ.deep, σ.L, r.2.2⟩
    else if r.1 = 92 then (iNext s r.2.1 r.2.2).bind fun q => iSingle q.1 ⟨q.2.1, σ.deep, σ.L, q.2.2⟩
    else if r.1 = 41 then some (0, ⟨r.2.1, σ.deep, σ.L, true⟩)
    else if r.1 = 124 then some (0, ⟨r.2.1, σ.deep, σ.L, true⟩)
    else if r.1 = 42 then some (0, ⟨r.2.1, σ.deep, σ.L, true⟩)
    else if r.1 = 43 then some (0, ⟨r.2.1, σ.deep, σ.L, true⟩)
    else if r.1 = 63 then some (0, ⟨r.2.1, σ.deep, σ.L, true⟩)
    else if r.1 = 93 then some (0, ⟨r.2.1, σ.deep, σ.L, true⟩)
    else iSingle r.1 ⟨r.2.1, σ.deep, σ.L, r.2.2⟩
def iRing (s : ByteArray) (n : Nat) (Wh : IS → Option (Int × IS)) : IS → Option (Int × IS) := iWholeB s (iPart s (iRep s (iAtom s Wh n) n) n) n
def iWhole (s : ByteArray) : Nat → IS → Option (Int × IS)
  | 0 => fun _ => none
  | n + 1 => iRing s n (iWhole s n)
def iReParse (n : Nat) (s : ByteArray) : Option (List S39 × Bool) :=
  if (1 : Int) ≤ s.size ∧ (s.size : Int) ≤ 200 then (iWhole s n ⟨0, 0, [], false⟩).bind fun r => if r.2.wr = true then some ([], false) else if r.2.at_ = (s.size : Int) then some (r.2.L, true) else some ([], false)
  else some ([], false)

/-! ### the reference's -/
def sNode (σ : SS) (x : S39) : Option (Int × SS) := if σ.L.length < 100000 then some ((σ.L.length : Int), ⟨σ.at_, σ.L ++ [x], σ.wr⟩) else none
def sJoined (kind : Int) (ks : List Int) (σ : SS) : Option (Int × SS) := if (ks.length : Int) = 1 then some (rd ks 0, σ) else sNode σ ⟨kind, false, ⟨#[]⟩, ks⟩
def sHas : ByteArray → Int → Option Bool := spec_l2has.f 10
def sKind (c : Int) : Int := if c = 43 then 6 else if c = 63 then 7 else 5
def sRepL (s : ByteArray) : Nat → Int → SS → Option (Int × SS)
  | 0, _, _ => none
  | n + 1, k, σ => if σ.wr = true then some (k, σ) else if sMore s σ.at_ = true then
      (sPeek s σ.at_).bind fun c => (sHas ⟨#[42, 43, 63]⟩ c).bind fun b => if b = true then (sNode ⟨wrap64 (σ.at_ + 1), σ.L, σ.wr⟩ ⟨sKind c, false, ⟨#[]⟩, [k]⟩).bind fun q => sRepL s n q.1 q.2 else some (k, σ)
    else some (k, σ)
def sRep (s : ByteArray) (A : SS → Option (Int × SS)) (n : Nat) (σ : SS) : Option (Int × SS) := (A σ).bind fun r => sRepL s n r.1 r.2
def sSeqL (s : ByteArray) (R : SS → Option (Int × SS)) : Nat → List Int → SS → Option (Int × SS)
  | 0, _, _ => none
  | n + 1, ks, σ => if σ.wr = true then sJoined 3 ks σ else if sMore s σ.at_ = true then
      (sPeek s σ.at_).bind fun c => if c = 124 then sJoined 3 ks σ else if c = 41 then sJoined 3 ks σ else if ks.length < 100000 then (R σ).bind fun r => sSeqL s R n (ks ++ [r.1]) r.2 else none
    else sJoined 3 ks σ
def sSeq (s : ByteArray) (R : SS → Option (Int × SS)) (n : Nat) (σ : SS) : Option (Int × SS) := (R σ).bind fun r => sSeqL s R n [r.1] r.2
def sAltL (s : ByteArray) (Pt : SS → Option (Int × SS)) : Nat → List Int → SS → Option (Int × SS)
  | 0, _, _ => none
  | n + 1, ks, σ => if σ.wr = true then sJoined 4 ks σ else if sMore s σ.at_ = true then
      (sPeek s σ.at_).bind fun c => if c = 124 then (if ks.length < 100000 then (Pt ⟨wrap64 (σ.at_ + 1), σ.L, σ.wr⟩).bind fun r => sAltL s Pt n (ks ++ [r.1]) r.2 else none) else sJoined 4 ks σ
    else sJoined 4 ks σ
def sAltB (s : ByteArray) (Pt : SS → Option (Int × SS)) (n : Nat) (σ : SS) : Option (Int × SS) := (Pt σ).bind fun r => sAltL s Pt n [r.1] r.2
def sSetE (s : ByteArray) (neg : Bool) (set : List Int) (σ : SS) : Option (Int × SS) :=
  if σ.wr = true then some (0, ⟨σ.at_, σ.L, true⟩) else (sPeek s σ.at_).bind fun c => if c = 93 then sNode ⟨wrap64 (σ.at_ + 1), σ.L, σ.wr⟩ ⟨0, neg, strOfNums set, []⟩ else some (0, ⟨σ.at_, σ.L, true⟩)
def sSetT (s : ByteArray) (σ : SS) : Option Bool :=
  if σ.wr = true then some false else if wrap64 (σ.at_ + 1) < (s.size : Int) then (if 0 ≤ σ.at_ then (if σ.at_ < (s.size : Int) then (if bt s σ.at_ = 45 then
      (if 0 ≤ wrap64 (σ.at_ + 1) then some (bt s (wrap64 (σ.at_ + 1)) != 93) else none) else some false) else none) else none) else some false
def sSetH (s : ByteArray) (a : Int) (σ : SS) : Option (Int × SS) :=
  (sSetT s σ).bind fun b => if b = true then (sItem s (wrap64 (σ.at_ + 1)) σ.wr).bind fun r => some (r.1, ⟨r.2.1, σ.L, r.2.2⟩) else some (a, σ)
def sSetC (s : ByteArray) (first : Bool) (σ : SS) : Option Bool :=
  if σ.wr = true then some false else if first = true then some true else if sMore s σ.at_ = true then (sPeek s σ.at_).bind fun c => some (c != 93) else some false
def sSetL (s : ByteArray) (neg : Bool) : Nat → Bool → List Int → SS → Option (Int × SS)
  | 0, _, _, _ => none
  | n + 1, first, set, σ => (sSetC s first σ).bind fun b => if b = true then
        (if set.length < 100000 then (sItem s σ.at_ σ.wr).bind fun r => (sSetH s r.1 ⟨r.2.1, σ.L, r.2.2⟩).bind fun q => sSetL s neg n false (set ++ [r.1, q.1]) (if q.1 < r.1 then ⟨q.2.at_, q.2.L, true⟩ else q.2) else none)
      else sSetE s neg set σ
def sSet (s : ByteArray) (n : Nat) (σ : SS) : Option (Int × SS) :=
  (sPeek s (wrap64 (σ.at_ + 1))).bind fun c => if c = 94 then sSetL s true n true [] ⟨wrap64 (wrap64 (σ.at_ + 1) + 1), σ.L, σ.wr⟩ else sSetL s false n true [] ⟨wrap64 (σ.at_ + 1), σ.L, σ.wr⟩
def sAtom (s : ByteArray) (Al : Int → SS → Option (Int × SS)) (n : Nat) (deep : Int) (σ : SS) : Option (Int × SS) :=
  (sPeek s σ.at_).bind fun c => if sMore s σ.at_ = true then (sHas ⟨#[41, 124, 42, 43, 63, 93]⟩ c).bind fun b => if b = true then some (0, ⟨σ.at_, σ.L, true⟩) else
      (if c = 40 then (if deep = 20 then some (0, ⟨σ.at_, σ.L, true⟩) else
        (Al (wrap64 (deep + 1)) ⟨wrap64 (σ.at_ + 1), σ.L, σ.wr⟩).bind fun k => (sPeek s k.2.at_).bind fun d => some (k.1, ⟨wrap64 (k.2.at_ + 1), k.2.L, if d = 41 then k.2.wr else true⟩))
      else if c = 91 then sSet s n σ
      else if c = 94 then sNode ⟨wrap64 (σ.at_ + 1), σ.L, σ.wr⟩ ⟨1, false, ⟨#[]⟩, []⟩
      else if c = 36 then sNode ⟨wrap64 (σ.at_ + 1), σ.L, σ.wr⟩ ⟨2, false, ⟨#[]⟩, []⟩
      else if c = 46 then sNode ⟨wrap64 (σ.at_ + 1), σ.L, σ.wr⟩ ⟨0, true, ⟨#[]⟩, []⟩
      else if c = 92 then (if sMore s (wrap64 (σ.at_ + 1)) = true then
          (sGot s (wrap64 (σ.at_ + 1)) σ.wr).bind fun r => sNode ⟨r.2.1, σ.L, r.2.2⟩ ⟨0, false, strOfNums [r.1, r.1], []⟩
        else some (0, ⟨wrap64 (σ.at_ + 1), σ.L, true⟩))
      else sNode ⟨wrap64 (σ.at_ + 1), σ.L, σ.wr⟩ ⟨0, false, strOfNums [c, c], []⟩)
    else some (0, ⟨σ.at_, σ.L, true⟩)
def sRing (s : ByteArray) (n : Nat) (Al : Int → SS → Option (Int × SS)) (deep : Int) : SS → Option (Int × SS) := sAltB s (sSeq s (sRep s (sAtom s Al n deep) n) n) n
def sAlt (s : ByteArray) : Nat → Int → SS → Option (Int × SS)
  | 0 => fun _ _ => none
  | n + 1 => sRing s n (sAlt s n)
def sReParse (n : Nat) (s : ByteArray) : Option (List S39 × Bool) :=
  if (s.size : Int) < 1 then some ([], false) else if (s.size : Int) > 200 then some ([], false) else
    (sAlt s n 0 ⟨0, [], false⟩).bind fun r => if r.2.wr = true then some ([], false) else if r.2.at_ = (s.size : Int) then (if (r.2.L.length : Int) > 200 then some ([], false) else some (r.2.L, true)) else some ([], false)

/-! ### contracts -/
abbrev DoesI (f : FuncId) (s : ByteArray) (F : IS → Option (Int × IS)) : Prop :=
  ∀ (P : Nat → Prop) (w0 w W : World) (g : Nat) (v : Value) (σ : IS) (r : Int) (σ' : IS), (∀ k, w.heap.size ≤ k → P k) → QI P w0 w W g s σ.at_ σ.deep v σ.L σ.wr → F σ = some (r, σ') →
    Calls Try.prog f #[.pointer (some ⟨g, 0, none⟩)] W fun e W' => e = .returned (.int .i64 r) ∧ ∃ v', QI P w0 w W' g s σ'.at_ σ'.deep v' σ'.L σ'.wr
abbrev DoesS (f : FuncId) (s : ByteArray) (deep : Int) (F : SS → Option (Int × SS)) : Prop :=
  ∀ (P : Nat → Prop) (w0 w W : World) (g : Nat) (v : Value) (σ : SS) (r : Int) (σ' : SS), (∀ k, w.heap.size ≤ k → P k) → QS P w0 w W g s σ.at_ v σ.L σ.wr → F σ = some (r, σ') →
    Calls Try.prog f #[.pointer (some ⟨g, 0, none⟩), .int .i64 deep] W fun e W' => e = .returned (.int .i64 r) ∧ ∃ v', QS P w0 w W' g s σ'.at_ v' σ'.L σ'.wr
end Go.Proofs.Ytmddcohelcciaaa.PFnExactReParse.H
