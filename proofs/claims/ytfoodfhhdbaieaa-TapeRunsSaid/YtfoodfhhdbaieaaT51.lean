-- CUT by a program of this session: what the claim does not use is left out
import Derived.Test.YtfoodfhhdbaieaaT23
import Derived.Test.YtfoodfhhdbaieaaT50
namespace Go.Proofs.Ytfoodfhhdbaieaa.Giv
set_option linter.unusedSimpArgs false
set_option linter.unusedVariables false
open Go.RowKit Go.Shelf Go.Proofs.YtfoodfhhdbaieaaW.PrintWords Go.Proofs.YtfoodfhhdbaieaaW.PrintLast Go.Proofs.YtfoodfhhdbaieaaW.PrintMore
open Go.Proofs.Ytfoodfhhdbaieaa.Ka (S54 rd_T54 rd_L1 at_L1 info3 info25 info54)

def Apart (v1 : Value) (us : List Value) : Prop := (∀ (i : Nat) (u : Value) (k : Nat), us[i]? = some u → u.ownBlock = some k → v1.ownBlock ≠ some k) ∧ (∀ (i j : Nat) (u v : Value) (k : Nat), us[i]? = some u → us[j]? = some v → i ≠ j → u.ownBlock = some k → v.ownBlock ≠ some k)
theorem Apart.push {v1 : Value} {us : List Value} {u : Value} {B : Nat} (h : Apart v1 us) (h1 : ∀ k, v1.ownBlock = some k → k < B) (h2 : ∀ (i : Nat) (x : Value) (k : Nat), us[i]? = some x → x.ownBlock = some k → k < B) (hu : ∀ k, u.ownBlock = some k → B ≤ k) : Apart v1 (us ++ [u]) := by
  have at_ : ∀ {i : Nat} {x : Value}, (us ++ [u])[i]? = some x → us[i]? = some x ∨ (x = u ∧ i = us.length) := fun {i x} hx => by
    rcases Nat.lt_or_ge i us.length with hi | hi
    · rw [List.getElem?_append_left hi] at hx; exact .inl hx
    · rw [List.getElem?_append_right hi] at hx
      have hz : i - us.length = 0 := by
        rcases Nat.eq_zero_or_pos (i - us.length) with h0 | h0
        · exact h0
        · rw [List.getElem?_eq_none (by simp; omega)] at hx; cases hx
      rw [hz] at hx
      simp at hx
      exact .inr ⟨hx.symm, by omega⟩
  refine ⟨fun i x k hx hk => ?_, fun i j x y k hx hy hij hk => ?_⟩
  · rcases at_ hx with hx' | ⟨ex, _⟩
    · exact h.1 i x k hx' hk
    · intro e; have := h1 k e; rw [ex] at hk; have := hu k hk; omega
  · rcases at_ hx with hx' | ⟨ex, ei⟩
    · rcases at_ hy with hy' | ⟨ey, ej⟩
      · exact h.2 i j x y k hx' hy' hij hk
      · intro e; have := h2 i x k hx' hk; rw [ey] at e; have := hu k e; omega
    · rcases at_ hy with hy' | ⟨ey, ej⟩
      · intro e; have := h2 j y k hy' e; rw [ex] at hk; have := hu k hk; omega
      · exact absurd (ei.trans ej.symm) hij
theorem own_under {w : World} {base : Nat} {e : TypeId} {n : Nat} {v : Value} {xs : List Value} (h : w.ownsRow base e 1 v n xs) : ∀ k, v.ownBlock = some k → k < w.heap.size := fun k hk => by
  obtain ⟨c, hc⟩ := own_typed h k hk
  exact (Array.getElem?_eq_some_iff.1 hc).1
structure SceneOwn (w : World) (base : Nat) (v1 : Value) (at_ : List Int) (v2 : Value) (us : List Value) (tp : List (List Int)) : Prop where
  row1 : w.ownsRow base 3 1 v1 at_.length (at_.map (Value.int .i64))
  row2 : w.ownsRow base 25 1 v2 us.length us
  len1 : us.length = tp.length
  inner : ∀ (i : Nat) (u : Value) (l : List Int), us[i]? = some u → tp[i]? = some l → w.ownsRow base 3 1 u l.length (l.map (Value.int .i64))
  apart : Apart v1 us
def TrimOut (w : World) (s : Int) (at_ : List Int) (tp : List (List Int)) (e : Ending) (w' : World) : Prop := ∃ v1 v2 us, e = .returned (.agg #[.int .i64 s, v1, v2]) ∧ SceneOwn w' w.heap.size v1 at_ v2 us tp ∧ Below w.heap.size w w'
def reg36a.T : Bool × List (List Nat × List Nat) := (true, [([], []), ([0], [0]), ([], []), ([], []), ([3], [3]), ([2, 4], [2, 4]), ([1, 5], [1, 5]), ([], []), ([7, 6, 5, 0, 1, 2, 3, 4, 5, 6, 7], [6, 7])])
def reg36a.B : List Nat := [0, 1, 0, 0, 8, 28, 63, 0, 255]
theorem reg36a.tab : rtab .any (opsOf Try.f36 1) = reg36a.T := by kernel_rfl
theorem reg36a.bits : waitsOk reg36a.T.2 reg36a.B = true := by kernel_rfl
def reg36b.T : Bool × List (List Nat × List Nat) := (true, [([], []), ([0], [0]), ([], []), ([2], [2]), ([], []), ([3, 4], [3, 4]), ([5], [5]), ([6], [6]), ([7], [7]), ([1, 8, 7], [1, 8]), ([0, 1, 2, 3, 4, 5, 6, 7, 8, 9], []), ([10, 9, 9, 0, 1, 2, 3, 4, 5, 6, 7, 8, 9], [9, 10])])
def reg36b.B : List Nat := [0, 1, 0, 4, 0, 28, 60, 124, 252, 511, 1023, 2047]
theorem reg36b.tab : rtab .any (opsOf Try.f36 5) = reg36b.T := by kernel_rfl
theorem reg36b.bits : waitsOk reg36b.T.2 reg36b.B = true := by kernel_rfl
set_option maxHeartbeats 1000000 in
set_option maxRecDepth 100000 in
theorem trim_walk (w : World) (s : Int) (A1 : Option Addr) (c1 : Nat) (at_ : List Int) (A2 : Option Addr) (c2 : Nat) (tp : List (List Int))
    (h1 : Kd.C (Kd.int .i64) w A1 at_.length at_) (h2 : Kd.C (Kd.slice 3 (Kd.int .i64)) w A2 tp.length tp)
    (ha : at_.length ≤ 1000000) (ht : tp.length ≤ 1000000) (htl : ∀ i : Nat, (rd_L1 tp i).length ≤ 1000000) :
    Calls Try.prog 36 #[.agg #[.int .i64 s, .slice A1 at_.length c1, .slice A2 tp.length c2]] w (TrimOut w s at_ (tp.map trimL)) := by
  have H1 := Aside0.mk h1
  have H2 := Aside0.mk h2
  have HA := Aside0.mk ha
  have HT := Aside0.mk ht
  have HTL := Aside0.mk htl
  clear h1 h2 ha ht htl
  obtain ⟨W, hW⟩ : ∃ W, (w.alloc (Obj.cells #[.int .i64 s, .slice A1 at_.length c1, .slice A2 tp.length c2] 32)).alloc (Obj.cells #[.int .i64 0, .slice none 0 0, .slice none 0 0] 32) = W := ⟨_, rfl⟩
  have HBW : Aside0 (Below w.heap.size w W) := ⟨by rw [← hW]; exact ((Below.refl _ _).alloc (Nat.le_refl _) _).alloc (by simp) _⟩
  have HXR : Aside0 (W.heap[w.heap.size + 1]? = some (.cells #[.int .i64 0, .slice none 0 0, .slice none 0 0] 32 (0, 0))) := ⟨by rw [← hW]; exact alloc2_new _ _ _⟩
  have HXC : Aside0 (W.heap[w.heap.size]? = some (.cells #[.int .i64 s, .slice A1 at_.length c1, .slice A2 tp.length c2] 32 (0, 0))) := ⟨by rw [← hW, heap_alloc_old (h := by simp)]; exact heap_alloc_new _ _⟩
  have HZW : Aside0 (w.heap.size + 1 < W.heap.size) := ⟨by rw [← hW]; simp⟩
  obtain ⟨n0, n1, n2⟩ := trio_cells HXC.out
  go_enter Try.func36, Try.ntmps36
  go_wp2_with fail
  try rw [hW]
  clear hW
  refine start_ (n := 9) (S := fun w' => w'.cell? ⟨w.heap.size, 0, none⟩ = some (.int .i64 s) ∧ w'.cell? ⟨w.heap.size, 1, none⟩ = some (.slice A1 at_.length c1)) (ds := [8]) #[false, false, false, false, false, false, false, false, false] (by kernel_rfl) rfl rfl ⟨n0, n1⟩ (fun hHeld => ?_); refine with_tabW reg36a.tab reg36a.bits (fun HT_ HW_ => ?_)
  have HB0 := Aside0.mk (below_drew (Below.refl W.heap.size W))
  generalize W.drew = W0 at HB0 hHeld ⊢
  refine pure_ (i := 0) (N := some 5) (v := ?_) (a' := ?_) #[true, false, false, false, false, false, false, false, false] rfl rfl (any_of HT_.out (by kernel_rfl)) (fun _ _ _ h => h) (Or.inl ⟨by rfl, ?_⟩) ?_ ?_
  rotate_left
  · intro w'
    go_simp
    with_reducible rfl
  rotate_left
  · simp only [Act.put, List.setIfInBounds_toArray, List.set_cons_zero, List.set_cons_succ, i64_w, i32_w]
    rfl
  refine pure_ (i := 3) (N := some 8) (v := ?_) (a' := ?_) #[true, false, false, true, false, false, false, false, false] rfl rfl (any_of HT_.out (by kernel_rfl)) (fun _ _ _ h => h) (Or.inl ⟨by rfl, ?_⟩) ?_ ?_
  rotate_left
  · intro w'
    go_simp
    with_reducible rfl
  rotate_left
  · simp only [Act.put, List.setIfInBounds_toArray, List.set_cons_zero, List.set_cons_succ, i64_w, i32_w]
    rfl
  refine take_ (i := 1) (N := some 6) (v := ?_) (a' := ?_) #[true, true, false, true, false, false, false, false, false] rfl rfl (take_ofW HT_.out HW_.out (by kernel_rfl)) (fun _ _ _ h => h) (Or.inl ⟨by rfl, ?_⟩) hHeld ?_ ?_
  rotate_left
  · rintro w' ⟨s0, s1⟩
    go_simp
    with_reducible rfl
  rotate_left
  · simp only [Act.put, List.setIfInBounds_toArray, List.set_cons_zero, List.set_cons_succ, i64_w, i32_w]
    rfl
  refine take_ (i := 4) (N := some 9) (v := ?_) (a' := ?_) #[true, true, false, true, true, false, false, false, false] rfl rfl (take_ofW HT_.out HW_.out (by kernel_rfl)) (fun _ _ _ h => h) (Or.inl ⟨by rfl, ?_⟩) hHeld ?_ ?_
  rotate_left
  · rintro w' ⟨s0, s1⟩
    go_simp
    with_reducible rfl
  rotate_left
  · simp only [Act.put, List.setIfInBounds_toArray, List.set_cons_zero, List.set_cons_succ, i64_w, i32_w]
    rfl
  refine join_ (σ := Value × (Option Addr × Nat) × Nat) 1 #[true, true, true, true, true, true, true, true, false] (fun s_ => [(7, s_.1), (10, .slice s_.2.1.1 at_.length s_.2.1.2), (11, .agg #[.int .i64 s, .slice s_.2.1.1 at_.length s_.2.1.2, .slice none 0 0]), (3, .pointer (some ⟨s_.2.2, 0, none⟩))]) (fun s_ w' => w'.ownsRow w.heap.size 3 1 (.slice s_.2.1.1 at_.length s_.2.1.2) at_.length (at_.map (Value.int .i64)) ∧ w'.heap[s_.2.2]? = some (.cells #[.int .i64 0, .slice none 0 0, .slice none 0 0] 32 (0, 0)) ∧ W.heap.size ≤ s_.2.2 ∧ Below W.heap.size W w') ?_ ?_
  rotate_left
  · intro hCont
    refine two_ (i := 2) (j := 7) (Ni := some 7) (Nj := some 3) #[true, true, true, true, true, false, false, false, false] #[true, true, false, true, true, false, false, true, false] rfl rfl rfl rfl (two_of HT_.out (by kernel_rfl)) (by decide) (by decide) (fun K hK => ?_) (fun K hK => ?_)
    · skip
      refine event_step (by rfl) (exec_build0 rfl) ?_
      obtain ⟨wu, hwu⟩ : ∃ u, W0.alloc (.cells #[] 3) = u := ⟨_, rfl⟩
      have hbu : Below W0.heap.size W0 wu := by rw [← hwu]; exact (Below.refl _ _).alloc (Nat.le_refl _) _
      have HU : Aside0 (wu.ownsRow w.heap.size 3 1 (.slice (some ⟨W0.heap.size, 0, none⟩) 0 0) 0 []) := ⟨by rw [← hwu]; exact ⟨rfl, .inr ⟨W0.heap.size, 0, #[], rfl, (by have := HB0.out.size; have := HBW.out.size; omega), heap_alloc_new _ _, Nat.le_refl _, by decide, rfl, rfl⟩⟩⟩
      have HBu := Aside0.mk (HB0.out.trans (hbu.mono HB0.out.size))
      rw [hwu]
      obtain ⟨gu, hgu⟩ : ∃ g, W0.heap.size = g := ⟨_, rfl⟩
      rw [hgu] at HU
      rw [hgu]
      clear hwu hbu hgu
      refine hK.out _ _ ⟨pw_cell_below HBu.out n0, pw_cell_below HBu.out n1⟩ (fun hHeld => ?_)
      clear hK K
      refine norm_ (a' := ?_) ?_ ?_
      rotate_left
      · show Act.put _ (some 7) _ = _
        simp only [Act.put, List.setIfInBounds_toArray, List.set_cons_zero, List.set_cons_succ, i64_w, i32_w]
        rfl
      refine two_ (i := 5) (j := 7) (Ni := some 10) (Nj := some 3) #[true, true, true, true, true, true, false, false, false] #[true, true, true, true, true, false, false, true, false] rfl rfl rfl rfl (two_of HT_.out (by kernel_rfl)) (by decide) (by decide) (fun K hK => ?_) (fun K hK => ?_)
      · skip
        obtain ⟨A9, c9, wa, qr, qo, qb⟩ := app_row 25 (c := c1) HU.out (by have := HBu.out.size; have := HBW.out.size; omega) (Kd.C_below H1.out (HBW.out.trans (HBu.out.mono HBW.out.size))) HA.out
        refine event_step (by rfl) (exec_append (.tmp 7) (.tmp 9) 25 25 rfl rfl (by rfl) (by rfl) qr) ?_
        have HO := Aside0.mk qo
        have HB2 := Aside0.mk (HBu.out.trans (qb.mono HBu.out.size))
        clear qr qo qb
        refine hK.out _ _ ⟨pw_cell_below HB2.out n0, pw_cell_below HB2.out n1⟩ (fun hHeld => ?_)
        clear hK K
        refine norm_ (a' := ?_) ?_ ?_
        rotate_left
        · show Act.put _ (some 10) _ = _
          simp only [Act.put, List.setIfInBounds_toArray, List.set_cons_zero, List.set_cons_succ, i64_w, i32_w]
          rfl
        refine pure_ (i := 6) (N := some 11) (v := ?_) (a' := ?_) #[true, true, true, true, true, true, true, false, false] rfl rfl (any_of HT_.out (by kernel_rfl)) (fun _ _ _ h => h) (Or.inl ⟨by rfl, ?_⟩) ?_ ?_
        rotate_left
        · intro w'
          go_simp
          with_reducible rfl
        rotate_left
        · simp only [Act.put, List.setIfInBounds_toArray, List.set_cons_zero, List.set_cons_succ, i64_w, i32_w]
          rfl
        refine one_ (i := 7) (N := some 3) #[true, true, true, true, true, true, true, true, false] rfl rfl (one_of HT_.out (by kernel_rfl)) (by decide) (fun K hK => ?_)
        refine box_step ?hg (N := 3) ?hd (cs := #[.int .i64 0, .slice none 0 0, .slice none 0 0]) (t := 32) ?hr ?_; (case hd => rfl); (case hg => rfl); (case hr => first | (go_simp; done) | (go_simp; rfl))
        intro gb hg w4 hbox hb
        have HX := Aside0.mk hbox
        have HGB : Aside0 (W.heap.size ≤ gb) := ⟨by rw [hg]; exact HB2.out.size⟩
        have HB4 := Aside0.mk (HB2.out.trans (hb.mono HB2.out.size))
        have HO4 := Aside0.mk (pw_own_below HO.out hb)
        clear hg hbox hb
        refine hK.out _ _ ⟨pw_cell_below HB4.out n0, pw_cell_below HB4.out n1⟩ (fun hHeld => ?_)
        clear hK K
        refine norm_ (a' := ?_) ?_ ?_
        rotate_left
        · show Act.put _ (some 3) _ = _
          simp only [Act.put, List.setIfInBounds_toArray, List.set_cons_zero, List.set_cons_succ, i64_w, i32_w]
          rfl
        exact norm_ (by simp only [putAll, Act.put, List.setIfInBounds_toArray, List.set_cons_zero, List.set_cons_succ]) (hCont (.slice (some ⟨gu, 0, none⟩) 0 0, (A9, c9), gb) _ ⟨HO4.out, HX.out, HGB.out, HB4.out⟩)
      · skip
        refine box_step ?hg (N := 3) ?hd (cs := #[.int .i64 0, .slice none 0 0, .slice none 0 0]) (t := 32) ?hr ?_; (case hd => rfl); (case hg => rfl); (case hr => first | (go_simp; done) | (go_simp; rfl))
        intro gb hg w4 hbox hb
        have HX := Aside0.mk hbox
        have HGB : Aside0 (W.heap.size ≤ gb) := ⟨by rw [hg]; exact HBu.out.size⟩
        have HB4 := Aside0.mk (HBu.out.trans (hb.mono HBu.out.size))
        have HU4 := Aside0.mk (pw_own_below HU.out hb)
        clear hg hbox hb
        refine hK.out _ _ ⟨pw_cell_below HB4.out n0, pw_cell_below HB4.out n1⟩ (fun hHeld => ?_)
        clear hK K
        refine norm_ (a' := ?_) ?_ ?_
        rotate_left
        · show Act.put _ (some 3) _ = _
          simp only [Act.put, List.setIfInBounds_toArray, List.set_cons_zero, List.set_cons_succ, i64_w, i32_w]
          rfl
        refine one_ (i := 5) (N := some 10) #[true, true, true, true, true, true, false, true, false] rfl rfl (one_of HT_.out (by kernel_rfl)) (by decide) (fun K hK => ?_)
        obtain ⟨A9, c9, wa, qr, qo, qb⟩ := app_row 25 (c := c1) HU4.out (by have := HB4.out.size; have := HBW.out.size; omega) (Kd.C_below H1.out (HBW.out.trans (HB4.out.mono HBW.out.size))) HA.out
        refine event_step (by rfl) (exec_append (.tmp 7) (.tmp 9) 25 25 rfl rfl (by rfl) (by rfl) qr) ?_
        have HO := Aside0.mk qo
        have HB2 := Aside0.mk (HB4.out.trans (qb.mono HB4.out.size))
        have HX2 := Aside0.mk ((qb.block _ (Array.getElem?_eq_some_iff.1 HX.out).1).trans HX.out)
        clear qr qo qb
        refine hK.out _ _ ⟨pw_cell_below HB2.out n0, pw_cell_below HB2.out n1⟩ (fun hHeld => ?_)
        clear hK K
        refine norm_ (a' := ?_) ?_ ?_
        rotate_left
        · show Act.put _ (some 10) _ = _
          simp only [Act.put, List.setIfInBounds_toArray, List.set_cons_zero, List.set_cons_succ, i64_w, i32_w]
          rfl
        refine pure_ (i := 6) (N := some 11) (v := ?_) (a' := ?_) #[true, true, true, true, true, true, true, true, false] rfl rfl (any_of HT_.out (by kernel_rfl)) (fun _ _ _ h => h) (Or.inl ⟨by rfl, ?_⟩) ?_ ?_
        rotate_left
        · intro w'
          go_simp
          with_reducible rfl
        rotate_left
        · simp only [Act.put, List.setIfInBounds_toArray, List.set_cons_zero, List.set_cons_succ, i64_w, i32_w]
          rfl
        exact norm_ (by simp only [putAll, Act.put, List.setIfInBounds_toArray, List.set_cons_zero, List.set_cons_succ]) (hCont (.slice (some ⟨gu, 0, none⟩) 0 0, (A9, c9), gb) _ ⟨HO.out, HX2.out, HGB.out, HB2.out⟩)
    · skip
      refine box_step ?hg (N := 3) ?hd (cs := #[.int .i64 0, .slice none 0 0, .slice none 0 0]) (t := 32) ?hr ?_; (case hd => rfl); (case hg => rfl); (case hr => first | (go_simp; done) | (go_simp; rfl))
      intro gb hg w4 hbox hb
      have HX := Aside0.mk hbox
      have HGB : Aside0 (W.heap.size ≤ gb) := ⟨by rw [hg]; exact HB0.out.size⟩
      have HB4 := Aside0.mk (HB0.out.trans (hb.mono HB0.out.size))
      clear hg hbox hb
      refine hK.out _ _ ⟨pw_cell_below HB4.out n0, pw_cell_below HB4.out n1⟩ (fun hHeld => ?_)
      clear hK K
      refine norm_ (a' := ?_) ?_ ?_
      rotate_left
      · show Act.put _ (some 3) _ = _
        simp only [Act.put, List.setIfInBounds_toArray, List.set_cons_zero, List.set_cons_succ, i64_w, i32_w]
        rfl
      refine one_ (i := 2) (N := some 7) #[true, true, true, true, true, false, false, true, false] rfl rfl (one_of HT_.out (by kernel_rfl)) (by decide) (fun K hK => ?_)
      refine event_step (by rfl) (exec_build0 rfl) ?_
      obtain ⟨wu, hwu⟩ : ∃ u, w4.alloc (.cells #[] 3) = u := ⟨_, rfl⟩
      have hbu : Below w4.heap.size w4 wu := by rw [← hwu]; exact (Below.refl _ _).alloc (Nat.le_refl _) _
      have HU : Aside0 (wu.ownsRow w.heap.size 3 1 (.slice (some ⟨w4.heap.size, 0, none⟩) 0 0) 0 []) := ⟨by rw [← hwu]; exact ⟨rfl, .inr ⟨w4.heap.size, 0, #[], rfl, (by have := HB4.out.size; have := HBW.out.size; omega), heap_alloc_new _ _, Nat.le_refl _, by decide, rfl, rfl⟩⟩⟩
      have HBu := Aside0.mk (HB4.out.trans (hbu.mono HB4.out.size))
      have HXu := Aside0.mk ((hbu.block _ (Array.getElem?_eq_some_iff.1 HX.out).1).trans HX.out)
      rw [hwu]
      obtain ⟨gu, hgu⟩ : ∃ g, w4.heap.size = g := ⟨_, rfl⟩
      rw [hgu] at HU
      rw [hgu]
      clear hwu hbu hgu
      refine hK.out _ _ ⟨pw_cell_below HBu.out n0, pw_cell_below HBu.out n1⟩ (fun hHeld => ?_)
      clear hK K
      refine norm_ (a' := ?_) ?_ ?_
      rotate_left
      · show Act.put _ (some 7) _ = _
        simp only [Act.put, List.setIfInBounds_toArray, List.set_cons_zero, List.set_cons_succ, i64_w, i32_w]
        rfl
      refine one_ (i := 5) (N := some 10) #[true, true, true, true, true, true, false, true, false] rfl rfl (one_of HT_.out (by kernel_rfl)) (by decide) (fun K hK => ?_)
      obtain ⟨A9, c9, wa, qr, qo, qb⟩ := app_row 25 (c := c1) HU.out (by have := HBu.out.size; have := HBW.out.size; omega) (Kd.C_below H1.out (HBW.out.trans (HBu.out.mono HBW.out.size))) HA.out
      refine event_step (by rfl) (exec_append (.tmp 7) (.tmp 9) 25 25 rfl rfl (by rfl) (by rfl) qr) ?_
      have HO := Aside0.mk qo
      have HB2 := Aside0.mk (HBu.out.trans (qb.mono HBu.out.size))
      have HX2 := Aside0.mk ((qb.block _ (Array.getElem?_eq_some_iff.1 HXu.out).1).trans HXu.out)
      clear qr qo qb
      refine hK.out _ _ ⟨pw_cell_below HB2.out n0, pw_cell_below HB2.out n1⟩ (fun hHeld => ?_)
      clear hK K
      refine norm_ (a' := ?_) ?_ ?_
      rotate_left
      · show Act.put _ (some 10) _ = _
        simp only [Act.put, List.setIfInBounds_toArray, List.set_cons_zero, List.set_cons_succ, i64_w, i32_w]
        rfl
      refine pure_ (i := 6) (N := some 11) (v := ?_) (a' := ?_) #[true, true, true, true, true, true, true, true, false] rfl rfl (any_of HT_.out (by kernel_rfl)) (fun _ _ _ h => h) (Or.inl ⟨by rfl, ?_⟩) ?_ ?_
      rotate_left
      · intro w'
        go_simp
        with_reducible rfl
      rotate_left
      · simp only [Act.put, List.setIfInBounds_toArray, List.set_cons_zero, List.set_cons_succ, i64_w, i32_w]
        rfl
      exact norm_ (by simp only [putAll, Act.put, List.setIfInBounds_toArray, List.set_cons_zero, List.set_cons_succ]) (hCont (.slice (some ⟨gu, 0, none⟩) 0 0, (A9, c9), gb) _ ⟨HO.out, HX2.out, HGB.out, HB2.out⟩)
  rintro ⟨xu, ⟨A9, c9⟩, bo⟩ w4 ⟨hO9, hX9, hGB, hB4⟩
  refine norm_ (a' := ?_) ?_ ?_
  rotate_left
  · simp only [putAll, Act.put, List.setIfInBounds_toArray, List.set_cons_zero, List.set_cons_succ]
    rfl
  have HO9 : Aside0 (w4.ownsRow w.heap.size 3 1 (.slice A9 at_.length c9) at_.length (at_.map (Value.int .i64))) := ⟨hO9⟩
  have HX9 : Aside0 (w4.heap[bo]? = some (.cells #[.int .i64 0, .slice none 0 0, .slice none 0 0] 32 (0, 0))) := ⟨hX9⟩
  have HGB : Aside0 (W.heap.size ≤ bo) := ⟨hGB⟩
  have HB4 := Aside0.mk hB4
  clear hO9 hX9 hGB hB4
  refine last_ (i := 8) (N := none) #[true, true, true, true, true, true, true, true, true] rfl rfl (one_of HT_.out (by kernel_rfl)) (by decide) (fun K hK => ?_)
  have hx9 := HX9.out
  obtain ⟨q0, q1, q2⟩ := trio_cells hx9
  have f0 := run_frozen hx9 0
  have f1 := run_frozen hx9 1
  have f2 := run_frozen hx9 2
  clear hx9
  refine skip_ (w1 := ?_) (by rfl) rfl ?_ ?_
  rotate_left
  · go_simp
    rfl
  refine hK.out _ _ ?_
  clear hK K
  refine done_ (done_of HT_.out (by kernel_rfl)) ?_
  clear hHeld HT_ HW_
  have hbow : w.heap.size ≤ bo := by have := HGB.out; have := HZW.out; omega
  have hne1 : w.heap.size + 1 ≠ bo := by have := HGB.out; have := HZW.out; omega
  have hne0 : w.heap.size ≠ bo := by have := HGB.out; have := HZW.out; omega
  have HBO : Aside0 (OutAt (((w4.setCell ⟨bo, 0, none⟩ (.int .i64 s)).setCell ⟨bo, 1, none⟩ (.slice A9 at_.length c9)).setCell ⟨bo, 2, none⟩ (.slice none 0 0)) w.heap.size bo s (.slice A9 at_.length c9) at_ (.slice none 0 0) [] []) := ⟨new_out HX9.out hbow HO9.out⟩
  have HBF : Aside0 (Below w.heap.size w (((w4.setCell ⟨bo, 0, none⟩ (.int .i64 s)).setCell ⟨bo, 1, none⟩ (.slice A9 at_.length c9)).setCell ⟨bo, 2, none⟩ (.slice none 0 0))) := ⟨(((HBW.out.trans (HB4.out.mono HBW.out.size)).setCell (p := ⟨bo, 0, none⟩) hbow _).setCell (p := ⟨bo, 1, none⟩) hbow _).setCell (p := ⟨bo, 2, none⟩) hbow _⟩
  have far : ∀ k, k ≠ bo → (((w4.setCell ⟨bo, 0, none⟩ (.int .i64 s)).setCell ⟨bo, 1, none⟩ (.slice A9 at_.length c9)).setCell ⟨bo, 2, none⟩ (.slice none 0 0)).heap[k]? = w4.heap[k]? := fun k hk => by
    rw [heap_setCell_other _ ⟨bo, 2, none⟩ _ _ hk, heap_setCell_other _ ⟨bo, 1, none⟩ _ _ hk, heap_setCell_other _ ⟨bo, 0, none⟩ _ _ hk]
  have HXF : Aside0 ((((w4.setCell ⟨bo, 0, none⟩ (.int .i64 s)).setCell ⟨bo, 1, none⟩ (.slice A9 at_.length c9)).setCell ⟨bo, 2, none⟩ (.slice none 0 0)).heap[w.heap.size + 1]? = some (.cells #[.int .i64 0, .slice none 0 0, .slice none 0 0] 32 (0, 0))) := ⟨by
    rw [far _ hne1]; exact (HB4.out.block _ HZW.out).trans HXR.out⟩
  have HCF : Aside0 ((((w4.setCell ⟨bo, 0, none⟩ (.int .i64 s)).setCell ⟨bo, 1, none⟩ (.slice A9 at_.length c9)).setCell ⟨bo, 2, none⟩ (.slice none 0 0)).heap[w.heap.size]? = some (.cells #[.int .i64 s, .slice A1 at_.length c1, .slice A2 tp.length c2] 32 (0, 0))) := ⟨by
    rw [far _ hne0]; exact (HB4.out.block _ (by have := HZW.out; omega)).trans HXC.out⟩
  have HNB : Aside0 (w.heap.size + 1 ≠ bo ∧ w.heap.size ≠ bo) := ⟨hne1, hne0⟩
  obtain ⟨w5, hw5⟩ : ∃ w5, ((w4.setCell ⟨bo, 0, none⟩ (.int .i64 s)).setCell ⟨bo, 1, none⟩ (.slice A9 at_.length c9)).setCell ⟨bo, 2, none⟩ (.slice none 0 0) = w5 := ⟨_, rfl⟩
  rw [hw5] at HBO HBF HXF HCF
  rw [hw5]
  clear hw5 n0 n1 n2 q0 q1 q2 f0 f1 f2 hbow hne1 hne0 far
  go_wp2_with fail
  go_loopg [4] tp.length (fun gg s4 wr => ∃ i : Int, s4 = .int .i64 i ∧ Aside0 (0 ≤ i) ∧ Aside0 ((tp.length : Int) - i = gg) ∧ Aside0 (Below w.heap.size w wr) ∧ Aside0 (wr.heap[w.heap.size + 1]? = some (.cells #[.int .i64 0, .slice none 0 0, .slice none 0 0] 32 (0, 0))) ∧ Aside0 (wr.heap[w.heap.size]? = some (.cells #[.int .i64 s, .slice A1 at_.length c1, .slice A2 tp.length c2] 32 (0, 0))) ∧ Aside0 (∃ v2 us, OutAt wr w.heap.size bo s (.slice A9 at_.length c9) at_ v2 us ((tp.map trimL).take i.toNat) ∧ Apart (.slice A9 at_.length c9) us))
  case atStart => exact ⟨0, rfl, ⟨by omega⟩, ⟨by omega⟩, HBF, HXF, HCF, ⟨_, _, by simpa using HBO.out, ⟨fun i u k h => by simp at h, fun i j u v k h => by simp at h⟩⟩⟩
  case round =>
    obtain ⟨i, rfl, HI, HG, HBR, HM3, HMC, HRX⟩ := hrel
    obtain ⟨v2, us, hRun, hAp⟩ := HRX.out
    have HAP := Aside0.mk hAp
    have hi := HI.out
    obtain ⟨b0, b1, b2⟩ := trio_cells HMC.out
    clear hAp
    by_cases cl : i < (tp.length : Int)
    · have clb : decide (i < (tp.length : Int)) = true := decide_eq_true cl
      obtain ⟨ad, B1, d1, e1, hx0, hlc, hC0⟩ := at_L1 H2.out i hi cl
      have HX0 := Aside0.mk hx0
      have hx := pw_cell_below HBR.out hx0
      have hC1 := Kd.C_below hC0 HBR.out
      subst e1
      have p1 := eq_true hi
      have q1 := eq_true cl
      have HC1 := Aside0.mk hC1
      have HLC := Aside0.mk hlc
      have HLI : Aside0 ((rd_L1 tp i).length ≤ 1000000) := ⟨by have := HTL.out i.toNat; rw [show ((i.toNat : Nat) : Int) = i by omega] at this; exact this⟩
      have HRI := Aside0.mk hRun
      have HUS : Aside0 (us.length ≤ 1000000) := ⟨by have := hRun.len1; have := HT.out; simp at *; omega⟩
      have HWZ : Aside0 (w.heap.size ≤ wr.heap.size) := ⟨HBR.out.size⟩
      obtain ⟨A7, c7, rfl⟩ := own_slice hRun.row2
      have x2 : wr.cell? ⟨bo, 2, none⟩ = some (.slice A7 us.length c7) := (trio_cells hRun.cells).2.2
      have i0 : 0 ≤ i := HI.out
      have i1 : i ≤ 1000000 := by have := HT.out; omega
      clear hC1 hC0 hx0 hlc hRun hi cl
      go_wp2_with fail
      refine start_ (n := 12) (S := fun w' => w'.cell? ⟨bo, 2, none⟩ = some (.slice A7 us.length c7) ∧ w'.cell? ⟨w.heap.size, 2, none⟩ = some (.slice (some ad) tp.length c2) ∧ w'.cell? (ad.add i.toNat) = some (.slice B1 (rd_L1 tp i).length d1)) (ds := [11]) #[false, false, false, false, false, false, false, false, false, false, false, false] (by kernel_rfl) rfl rfl ⟨x2, b2, hx⟩ (fun hHeld => ?_); refine with_tabW reg36b.tab reg36b.bits (fun HT_ HW_ => ?_)
      have HB0 := Aside0.mk (below_drew (Below.refl wr.heap.size wr))
      generalize wr.drew = W0 at HB0 hHeld ⊢
      refine pure_ (i := 0) (N := some 19) (v := ?_) (a' := ?_) #[true, false, false, false, false, false, false, false, false, false, false, false] rfl rfl (any_of HT_.out (by kernel_rfl)) (fun _ _ _ h => h) (Or.inl ⟨by rfl, ?_⟩) ?_ ?_
      rotate_left
      · intro w'
        go_simp
        with_reducible rfl
      rotate_left
      · simp only [Act.put, List.setIfInBounds_toArray, List.set_cons_zero, List.set_cons_succ, i64_w, i32_w]
        rfl
      refine pure_ (i := 2) (N := some 21) (v := ?_) (a' := ?_) #[true, false, true, false, false, false, false, false, false, false, false, false] rfl rfl (any_of HT_.out (by kernel_rfl)) (fun _ _ _ h => h) (Or.inl ⟨by rfl, ?_⟩) ?_ ?_
      rotate_left
      · intro w'
        go_simp
        with_reducible rfl
      rotate_left
      · simp only [Act.put, List.setIfInBounds_toArray, List.set_cons_zero, List.set_cons_succ, i64_w, i32_w]
        rfl
      refine pure_ (i := 4) (N := some 23) (v := ?_) (a' := ?_) #[true, false, true, false, true, false, false, false, false, false, false, false] rfl rfl (any_of HT_.out (by kernel_rfl)) (fun _ _ _ h => h) (Or.inl ⟨by rfl, ?_⟩) ?_ ?_
      rotate_left
      · intro w'
        go_simp
        with_reducible rfl
      rotate_left
      · simp only [Act.put, List.setIfInBounds_toArray, List.set_cons_zero, List.set_cons_succ, i64_w, i32_w]
        rfl
      refine take_ (i := 1) (N := some 20) (v := ?_) (a' := ?_) #[true, true, true, false, true, false, false, false, false, false, false, false] rfl rfl (take_ofW HT_.out HW_.out (by kernel_rfl)) (fun _ _ _ h => h) (Or.inl ⟨by rfl, ?_⟩) hHeld ?_ ?_
      rotate_left
      · rintro w' ⟨s0, s1, s2⟩
        go_simp
        with_reducible rfl
      rotate_left
      · simp only [Act.put, List.setIfInBounds_toArray, List.set_cons_zero, List.set_cons_succ, i64_w, i32_w]
        rfl
      refine take_ (i := 3) (N := some 22) (v := ?_) (a' := ?_) #[true, true, true, true, true, false, false, false, false, false, false, false] rfl rfl (take_ofW HT_.out HW_.out (by kernel_rfl)) (fun _ _ _ h => h) (Or.inl ⟨by rfl, ?_⟩) hHeld ?_ ?_
      rotate_left
      · rintro w' ⟨s0, s1, s2⟩
        go_simp
        with_reducible rfl
      rotate_left
      · simp only [Act.put, List.setIfInBounds_toArray, List.set_cons_zero, List.set_cons_succ, i64_w, i32_w]
        rfl
      refine pure_ (i := 5) (N := some 24) (v := ?_) (a' := ?_) #[true, true, true, true, true, true, false, false, false, false, false, false] rfl rfl (any_of HT_.out (by kernel_rfl)) (fun _ _ _ h => h) (Or.inl ⟨by rfl, ?_⟩) ?_ ?_
      rotate_left
      · intro w'
        go_simp
        with_reducible rfl
      rotate_left
      · simp only [Act.put, List.setIfInBounds_toArray, List.set_cons_zero, List.set_cons_succ, i64_w, i32_w]
        rfl
      refine take_ (i := 6) (N := some 25) (v := ?_) (a' := ?_) #[true, true, true, true, true, true, true, false, false, false, false, false] rfl rfl (take_ofW HT_.out HW_.out (by kernel_rfl)) (fun _ _ _ h => h) (Or.inl ⟨by rfl, ?_⟩) hHeld ?_ ?_
      rotate_left
      · rintro w' ⟨s0, s1, s2⟩
        go_simp
        with_reducible rfl
      rotate_left
      · simp only [Act.put, List.setIfInBounds_toArray, List.set_cons_zero, List.set_cons_succ, i64_w, i32_w]
        rfl
      refine one_ (i := 7) (N := some 26) #[true, true, true, true, true, true, true, true, false, false, false, false] rfl rfl (one_of HT_.out (by kernel_rfl)) (by decide) (fun K hK => ?_)
      refine goes_ Try.func34 (by kernel_rfl) rfl #[.slice B1 (rd_L1 tp i).length d1] (by rfl) rfl rfl (by (try simp only [List.map_toArray, List.map_cons, List.map_nil]); first | done | rfl) ?_
      refine (refTrimmed_calls B1 d1 (rd_L1 tp i) W0 (Kd.C_below HC1.out HB0.out) HLC.out HLI.out).mono ?_
      rintro e w2 ⟨u, rfl, hO, hB2⟩
      refine ⟨_, rfl, ?_⟩
      obtain ⟨A6, c6, rfl, _, _⟩ := own_C hO
      have HB2 := Aside0.mk (HB0.out.trans (hB2.mono HB0.out.size))
      have HO2 : Aside0 (w2.ownsRow wr.heap.size 3 1 (.slice A6 (trimL (rd_L1 tp i)).length c6) (trimL (rd_L1 tp i)).length ((trimL (rd_L1 tp i)).map (Value.int .i64))) := ⟨hO.mono HB0.out.size⟩
      clear hO hB2
      refine hK.out _ _ ⟨pw_cell_below HB2.out x2, pw_cell_below HB2.out b2, pw_cell_below HB2.out hx⟩ (fun hHeld => ?_)
      clear hK K
      refine norm_ (a' := ?_) ?_ ?_
      rotate_left
      · show Act.put _ (some 26) _ = _
        simp only [Act.put, List.setIfInBounds_toArray, List.set_cons_zero, List.set_cons_succ, i64_w, i32_w]
        rfl
      refine one_ (i := 8) (N := some 27) #[true, true, true, true, true, true, true, true, true, false, false, false] rfl rfl (one_of HT_.out (by kernel_rfl)) (by decide) (fun K hK => ?_)
      refine event_step (v := .slice (some ⟨w2.heap.size, 0, none⟩) 1 1) (w1 := w2.alloc (.cells #[(.slice A6 (trimL (rd_L1 tp i)).length c6)] 25)) (by rfl) (by go_simp; first | done | rfl) ?_
      have HB3 := Aside0.mk (HB2.out.alloc HB2.out.size (.cells #[(.slice A6 (trimL (rd_L1 tp i)).length c6)] 25))
      refine hK.out _ _ ⟨pw_cell_below HB3.out x2, pw_cell_below HB3.out b2, pw_cell_below HB3.out hx⟩ (fun hHeld => ?_)
      clear hK K
      refine norm_ (a' := ?_) ?_ ?_
      rotate_left
      · show Act.put _ (some 27) _ = _
        simp only [Act.put, List.setIfInBounds_toArray, List.set_cons_zero, List.set_cons_succ, i64_w, i32_w]
        rfl
      refine one_ (i := 9) (N := some 28) #[true, true, true, true, true, true, true, true, true, true, false, false] rfl rfl (one_of HT_.out (by kernel_rfl)) (by decide) (fun K hK => ?_)
      obtain ⟨v2', w5, hrun, r1, hg, r5⟩ := run_append_one w.heap.size 30 25 (.slice none 0 0) 24 Try.underlying30 info25 rfl (by decide) (.slice A7 us.length c7) us.length us (.slice A6 (trimL (rd_L1 tp i)).length c6) rfl ((HRI.out.below HB2.out).row2) HUS.out (by have := HB2.out.size; have := HWZ.out; omega)
      obtain ⟨A8, c8, rfl⟩ := own_slice r1
      refine event_step (v := .slice A8 (us.length + 1) c8) (w1 := w5) (by rfl) (exec_append (.tmp 20) (.tmp 27) 30 30 rfl rfl (by rfl) (by rfl) hrun) ?_
      have HRP := Aside0.mk (HRI.out.push HB2.out HO2.out hg r1 HWZ.out)
      have HG5 := Aside0.mk hg
      have s5 : w5.cell? ⟨bo, 2, none⟩ = some (.slice A7 us.length c7) ∧ w5.cell? ⟨w.heap.size, 2, none⟩ = some (.slice (some ad) tp.length c2) ∧ w5.cell? (ad.add i.toNat) = some (.slice B1 (rd_L1 tp i).length d1) := by
        refine ⟨(HRI.out.below HB2.out).outer_cell hg, ?_, ?_⟩
        · have hz := (Array.getElem?_eq_some_iff.1 HMC.out).1
          have h32 := (hg.block _ (by have := HB2.out.size; omega) (fun e => by
            obtain ⟨c', hc'⟩ := own_typed (HRI.out.below HB2.out).row2 w.heap.size e.symm
            exact ne_of_typed ((HB2.out.block _ hz).trans HMC.out) hc' (by decide) rfl)).trans ((HB2.out.block _ hz).trans HMC.out)
          exact (trio_cells h32).2.2
        · exact pw_cell_below ((HBR.out.trans (HB2.out.mono HWZ.out)).grown hg (by have := HB2.out.size; have := HWZ.out; omega) (fun k hk => own_base HRI.out.row2 k hk)) HX0.out
      clear hrun r1 hg r5
      refine hK.out _ _ s5 (fun hHeld => ?_)
      clear hK K s5
      refine norm_ (a' := ?_) ?_ ?_
      rotate_left
      · show Act.put _ (some 28) _ = _
        simp only [Act.put, List.setIfInBounds_toArray, List.set_cons_zero, List.set_cons_succ, i64_w, i32_w]
        rfl
      refine pure_ (i := 10) (N := some 29) (v := ?_) (a' := ?_) #[true, true, true, true, true, true, true, true, true, true, true, false] rfl rfl (any_of HT_.out (by kernel_rfl)) (fun _ _ _ h => h) (Or.inl ⟨by rfl, ?_⟩) ?_ ?_
      rotate_left
      · intro w'
        go_simp
        with_reducible rfl
      rotate_left
      · simp only [Act.put, List.setIfInBounds_toArray, List.set_cons_zero, List.set_cons_succ, i64_w, i32_w]
        rfl
      refine last_ (i := 11) (N := none) #[true, true, true, true, true, true, true, true, true, true, true, true] rfl rfl (one_of HT_.out (by kernel_rfl)) (by decide) (fun K hK => ?_)
      have x5 := hHeld.1
      have xf : w5.frozen? ⟨bo, 2, none⟩ = false := (HRI.out.below HB2.out).outer_frozen HG5.out
      refine skip_ (w1 := ?_) (by rfl) rfl ?_ ?_
      rotate_left
      · go_simp
        rfl
      refine hK.out _ _ ?_
      clear hK K
      refine done_ (done_of HT_.out (by kernel_rfl)) ?_
      clear x5 xf
      have hwz := HWZ.out
      have hw2 := HB2.out.size
      clear b0 b1 b2 x2 hx
      go_wp2_with fail
      go_roundg ((tp.length : Int) - (i + 1)).toNat
      case measure => have := HG.out; have := of_eq_true q1; omega
      case rel =>
        have i2 := of_eq_true q1
        have hbo := HRI.out.hbo
        have keepb : ∀ {g : Nat} {cs : Array Value}, g ≠ bo → wr.heap[g]? = some (.cells cs 32 (0, 0)) → (w5.setCell ⟨bo, 2, none⟩ (.slice A8 (us.length + 1) c8)).heap[g]? = some (.cells cs 32 (0, 0)) := fun {g cs} hne hc => by
          have hz := (Array.getElem?_eq_some_iff.1 hc).1
          rw [heap_setCell_other _ ⟨bo, 2, none⟩ _ _ hne]
          exact (HG5.out.block _ (by omega) (fun e => by
            obtain ⟨c', hc'⟩ := own_typed (HRI.out.below HB2.out).row2 g e.symm
            exact ne_of_typed ((HB2.out.block _ hz).trans hc) hc' (by decide) rfl)).trans ((HB2.out.block _ hz).trans hc)
        refine ⟨i + 1, rfl, ⟨by omega⟩, ⟨by omega⟩, ⟨?_⟩, ⟨keepb HNB.out.1 HM3.out⟩, ⟨keepb HNB.out.2 HMC.out⟩, ⟨.slice A8 (us.length + 1) c8, us ++ [.slice A6 (trimL (rd_L1 tp i)).length c6], ?_, ?_⟩⟩
        · exact ((HBR.out.trans (HB2.out.mono HWZ.out)).grown HG5.out (by omega) (fun k hk => own_base HRI.out.row2 k hk)).setCell (p := ⟨bo, 2, none⟩) hbo _
        · have e9 : (tp.map trimL).take (i + 1).toNat = (tp.map trimL).take i.toNat ++ [trimL (rd_L1 tp i)] := by
            rw [show (i + 1).toNat = i.toNat + 1 by omega, List.take_succ_eq_append_getElem (by simp; omega)]
            simp [rd_L1, List.getD_eq_getElem?_getD, List.getElem?_eq_getElem (show i.toNat < tp.length by omega)]
          rw [e9]
          exact HRP.out
        · refine HAP.out.push (B := wr.heap.size) (own_under HRI.out.row1) (fun j x k hx hk => ?_) (fun k hk => own_base HO2.out k hk)
          have hj : j < ((tp.map trimL).take i.toNat).length := by rw [← HRI.out.len1]; exact (List.getElem?_eq_some_iff.1 hx).1
          exact own_under (HRI.out.inner j x _ hx (List.getElem?_eq_getElem hj)) k hk
    · have clb : decide (i < (tp.length : Int)) = false := decide_eq_false cl
      have hft : (tp.map trimL).take i.toNat = tp.map trimL := List.take_of_length_le (by simp; omega)
      rw [hft] at hRun
      have HR0 := Aside0.mk hRun
      obtain ⟨z0, z1, z2⟩ := trio_cells HM3.out
      have y0 := run_frozen HM3.out 0
      have y1 := run_frozen HM3.out 1
      have y2 := run_frozen HM3.out 2
      have hz2 := (Array.getElem?_eq_some_iff.1 HM3.out).1
      obtain ⟨A2', c2', rfl⟩ := own_slice hRun.row2
      obtain ⟨x0, x1, x2⟩ := trio_cells hRun.cells
      have hne := HNB.out.1
      have hne2 := HNB.out.1.symm
      clear hft hRun hi cl HRX
      go_wp2_with fail
      refine bodyPost_ret (v := .agg #[.int .i64 s, .slice A9 at_.length c9, .slice A2' us.length c2']) (by simp [results, Try.results36, go_sem, z0, z1, z2, y0, y1, y2, hz2]) rfl ?_
      have hgr : wr.grownBy (((wr.setCell ⟨w.heap.size + 1, 0, none⟩ (.int .i64 s)).setCell ⟨w.heap.size + 1, 1, none⟩ (.slice A9 at_.length c9)).setCell ⟨w.heap.size + 1, 2, none⟩ (.slice A2' us.length c2')) (some (w.heap.size + 1)) := grown_trans (grown_trans (set_grown wr _ 0 _) (set_grown _ _ 1 _)) (set_grown _ _ 2 _)
      have ne32 : ∀ {n e : Nat} {x : Value} {xs : List Value}, wr.ownsRow w.heap.size e 1 x n xs → e ≠ 32 → ∀ k, x.ownBlock = some k → some (w.heap.size + 1) ≠ some k := fun hx he k hk e => by
        obtain ⟨c', hc'⟩ := own_typed hx k hk
        injection e with e
        exact ne_of_typed HM3.out hc' (Ne.symm he) e
      refine ⟨_, _, us, rfl, ⟨kept_of HR0.out.row1 hgr (fun k hk => ne32 HR0.out.row1 (by decide) k hk), kept_of HR0.out.row2 hgr (fun k hk => ne32 HR0.out.row2 (by decide) k hk), HR0.out.len1, fun i u l hu hl => kept_of (HR0.out.inner i u l hu hl) hgr (fun k hk => ne32 (HR0.out.inner i u l hu hl) (by decide) k hk), HAP.out⟩, ?_⟩
      exact ((HBR.out.setCell (p := ⟨w.heap.size + 1, 0, none⟩) (by simp) _).setCell (p := ⟨w.heap.size + 1, 1, none⟩) (by simp) _).setCell (p := ⟨w.heap.size + 1, 2, none⟩) (by simp) _
end Go.Proofs.Ytfoodfhhdbaieaa.Giv
