-- CUT by a program of this session: what the claim does not use is left out
import Derived.Test.YtfoodfhhdbaieaaDoorT12
namespace Go.Proofs.YtfoodfhhdbaieaaDoor.Giv
set_option maxRecDepth 100000
set_option linter.unusedSimpArgs false
set_option linter.unusedVariables false
open Go.RowKit Go.Proofs.YtfoodfhhdbaieaaDoorW.PrintWords Go.Proofs.YtfoodfhhdbaieaaDoorW.PrintLast Go.Proofs.YtfoodfhhdbaieaaDoorW.PrintMore
open Go.Proofs.YtfoodfhhdbaieaaDoor.Ka (S40 k40 z40 rd_T40 at_T40 k40_open k40_mk rd_L1 at_L1 info3 info38 info40)

theorem trio_cells {w : World} {k : Nat} {a b c : Value} {t : TypeId} (h : w.heap[k]? = some (.cells #[a, b, c] t (0, 0))) : w.cell? ⟨k, 0, none⟩ = some a ∧ w.cell? ⟨k, 1, none⟩ = some b ∧ w.cell? ⟨k, 2, none⟩ = some c := by
 simp [World.cell?, h]
structure OutAt (w : World) (base bo : Nat) (s : Int) (v1 : Value) (at_ : List Int) (v2 : Value) (us : List Value) (tp : List (List Int)) : Prop where
 cells : w.heap[bo]? = some (.cells #[.int .i64 s, v1, v2] 43 (0, 0))
 hbo : base ≤ bo
 row1 : w.ownsRow base 3 1 v1 at_.length (at_.map (Value.int .i64))
 row2 : w.ownsRow base 38 1 v2 us.length us
 len1 : us.length = tp.length
 inner : ∀ (i : Nat) (u : Value) (l : List Int), us[i]? = some u → tp[i]? = some l → w.ownsRow base 3 1 u l.length (l.map (Value.int .i64))
section
variable {w w' : World} {base bo : Nat} {s : Int} {v1 v2 : Value} {at_ : List Int} {us : List Value} {tp : List (List Int)}
theorem OutAt.below (h : OutAt w base bo s v1 at_ v2 us tp) (hb : Below w.heap.size w w') : OutAt w' base bo s v1 at_ v2 us tp where
 cells := (hb.block bo (Array.getElem?_eq_some_iff.1 h.cells).1).trans h.cells
 hbo := h.hbo
 row1 := pw_own_below h.row1 hb
 row2 := pw_own_below h.row2 hb
 len1 := h.len1
 inner i u l hu hl := pw_own_below (h.inner i u l hu hl) hb
theorem OutAt.heap (h : OutAt w base bo s v1 at_ v2 us tp) (hg : w.grownBy w' v2.ownBlock) : w'.heap[bo]? = some (.cells #[.int .i64 s, v1, v2] 43 (0, 0)) :=
 (hg.block bo (Array.getElem?_eq_some_iff.1 h.cells).1 (fun e => by
  obtain ⟨c', hc'⟩ := own_typed h.row2 bo e.symm
  exact ne_of_typed h.cells hc' (by decide) rfl)).trans h.cells
theorem OutAt.outer_cell (h : OutAt w base bo s v1 at_ v2 us tp) (hg : w.grownBy w' v2.ownBlock) : w'.cell? ⟨bo, 2, none⟩ = some v2 := (trio_cells (h.heap hg)).2.2
theorem OutAt.outer_frozen (h : OutAt w base bo s v1 at_ v2 us tp) (hg : w.grownBy w' v2.ownBlock) : w'.frozen? ⟨bo, 2, none⟩ = false := run_frozen (h.heap hg) 2
theorem OutAt.push (h : OutAt w base bo s v1 at_ v2 us tp) {w1 w2 : World} {u v2' : Value} {l : List Int} (hB : Below w.heap.size w w1) (hu : w1.ownsRow w.heap.size 3 1 u l.length (l.map (Value.int .i64))) (hg : w1.grownBy w2 v2.ownBlock)
  (ho : w2.ownsRow base 38 1 v2' (us.length + 1) (us ++ [u])) (hbase : base ≤ w.heap.size) : OutAt (w2.setCell ⟨bo, 2, none⟩ v2') base bo s v1 at_ v2' (us ++ [u]) (tp ++ [l]) := by
 have h1 := h.below hB
 have hu1 : w1.ownsRow base 3 1 u l.length (l.map (Value.int .i64)) := hu.mono hbase
 have hg2 : w2.grownBy (w2.setCell ⟨bo, 2, none⟩ v2') (some bo) := ⟨rfl, rfl, rfl, by simp, fun k _ hk => heap_setCell_other w2 ⟨bo, 2, none⟩ k _ (fun e => hk (by rw [e]))⟩
 have ne25 : ∀ {n : Nat} {x : Value} {xs : List Value}, w1.ownsRow base 3 1 x n xs → ∀ k, x.ownBlock = some k → v2.ownBlock ≠ some k := fun hx k hk e => by
  obtain ⟨c, hc⟩ := own_typed hx k hk
  obtain ⟨c', hc'⟩ := own_typed h1.row2 k e
  exact ne_of_typed hc hc' (by decide) rfl
 have hc2 := h1.heap hg
 have ne32 : ∀ {e n : Nat} {x : Value} {xs : List Value}, w2.ownsRow base e 1 x n xs → e ≠ 43 → ∀ k, x.ownBlock = some k → some bo ≠ some k := fun hx he k hk e => by
  obtain ⟨c, hc⟩ := own_typed hx k hk
  injection e with e
  exact ne_of_typed hc2 hc (Ne.symm he) e
 have r1 := kept_of h1.row1 hg (fun k hk => ne25 h1.row1 k hk)
 refine ⟨(heap_setCell_same w2 bo 2 _ 43 _ hc2).trans rfl, h.hbo, kept_of r1 hg2 (fun k hk => ne32 r1 (by decide) k hk), ?_, by simp [h.len1], ?_⟩
 ·rw [List.length_append]; exact kept_of ho hg2 (fun k hk => ne32 ho (by decide) k hk)
 ·intro i x m hx hm
  have r : w1.ownsRow base 3 1 x m.length (m.map (Value.int .i64)) := by
   by_cases e : i < us.length
   ·rw [List.getElem?_append_left e] at hx
    rw [List.getElem?_append_left (by rw [← h.len1]; exact e)] at hm
    exact h1.inner i x m hx hm
   ·have e' : i = us.length := by have := (List.getElem?_eq_some_iff.1 hx).1; simp at this; omega
    subst e'
    rw [List.getElem?_append_right (Nat.le_refl _)] at hx
    rw [List.getElem?_append_right (by rw [h.len1]; exact Nat.le_refl _)] at hm
    simp at hx
    rw [h.len1] at hm
    simp at hm
    subst hx; subst hm
    exact hu1
  have r2 := kept_of r hg (fun k hk => ne25 r k hk)
  exact kept_of r2 hg2 (fun k hk => ne32 r2 (by decide) k hk)
end
theorem new_out {w : World} {base gb : Nat} {s : Int} {v1 : Value} {at_ : List Int} (hc : w.heap[gb]? = some (.cells #[.int .i64 0, .slice none 0 0, .slice none 0 0] 43 (0, 0))) (hb : base ≤ gb) (ho : w.ownsRow base 3 1 v1 at_.length (at_.map (Value.int .i64))) :
  OutAt (((w.setCell ⟨gb, 0, none⟩ (.int .i64 s)).setCell ⟨gb, 1, none⟩ v1).setCell ⟨gb, 2, none⟩ (.slice none 0 0)) base gb s v1 at_ (.slice none 0 0) [] [] := by
 have h1 := heap_setCell_same w gb 0 _ 43 (.int .i64 s) hc
 have h2 := heap_setCell_same _ gb 1 _ 43 v1 h1
 have h3 := heap_setCell_same _ gb 2 _ 43 (.slice none 0 0) h2
 have hg := grown_trans (grown_trans (set_grown w gb 0 (.int .i64 s)) (set_grown _ gb 1 v1)) (set_grown _ gb 2 (.slice none 0 0))
 refine ⟨h3.trans rfl, hb, kept_of ho hg (fun k hk e => ?_), World.ownsRow_nil _ _ _ _, rfl, (fun i u l h => by simp at h)⟩
 injection e with e
 obtain ⟨c', hc'⟩ := own_typed ho k hk
 exact ne_of_typed hc hc' (by decide) e
theorem cell_other3 {w : World} {b k j : Nat} {x y z : Value} (h : b ≠ k) : (((w.setCell ⟨k, 0, none⟩ x).setCell ⟨k, 1, none⟩ y).setCell ⟨k, 2, none⟩ z).cell? ⟨b, j, none⟩ = w.cell? ⟨b, j, none⟩ := by
 rw [World.cell?_setCell_other _ _ _ _ (by intro e; injection e with e; exact h e.symm), World.cell?_setCell_other _ _ _ _ (by intro e; injection e with e; exact h e.symm), World.cell?_setCell_other _ _ _ _ (by intro e; injection e with e; exact h e.symm)]
def SceneV (w : World) (v : Value) (s : Int) (at_ : List Int) (tp : List (List Int)) : Prop := ∃ A1 c1 A2 c2, v = .agg #[.int .i64 s, .slice A1 at_.length c1, .slice A2 tp.length c2] ∧ at_.length ≤ c1 ∧ Kd.C (Kd.int .i64) w A1 at_.length at_ ∧ tp.length ≤ c2 ∧ Kd.C (Kd.slice 3 (Kd.int .i64)) w A2 tp.length tp
def SceneOut (w : World) (s : Int) (at_ : List Int) (tp : List (List Int)) (e : Ending) (w' : World) : Prop := ∃ v, e = .returned v ∧ (∀ w'' : World, (∀ k, w.heap.size ≤ k → w''.heap[k]? = w'.heap[k]?) → SceneV w'' v s at_ tp) ∧ Below w.heap.size w w'
theorem own_agree {w w' : World} {base : Nat} {e : TypeId} {n : Nat} {v : Value} {xs : List Value} (h : w.ownsRow base e 1 v n xs) (ha : ∀ k, base ≤ k → w'.heap[k]? = w.heap[k]?) : w'.ownsRow base e 1 v n xs := by
 refine ⟨h.1, ?_⟩
 rcases h.2 with hn | ⟨g, cap, cur, hv, hb, hg, rest⟩
 ·exact .inl hn
 ·exact .inr ⟨g, cap, cur, hv, hb, (ha g hb).trans hg, rest⟩
def reg45a.T : Bool × List (List Nat × List Nat) := (true, [([], []), ([0], [0]), ([1], [1]), ([2], [2]), ([3], [3]), ([], []), ([5], [5]), ([6], [6]), ([7], [7]), ([8], [8]), ([9], [9]), ([4, 10], [4, 10]), ([], []), ([12, 11, 10, 0, 1, 2, 3, 4, 5, 6, 7, 8, 9, 10, 11, 12], [11, 12])])
def reg45a.B : List Nat := [0, 1, 3, 7, 15, 0, 32, 96, 224, 480, 992, 2047, 0, 8191]
theorem reg45a.tab : rtab .any (opsOf Tryd.f32 1) = reg45a.T := by kernel_rfl
theorem reg45a.bits : waitsOk reg45a.T.2 reg45a.B = true := by kernel_rfl
def reg45b.T : Bool × List (List Nat × List Nat) := (true, [([], []), ([0], [0]), ([], []), ([2], [2]), ([3], [3]), ([1, 4, 3], [1, 4]), ([0, 1, 2, 3, 4, 5], []), ([6, 5, 5, 0, 1, 2, 3, 4, 5], [5, 6])])
def reg45b.B : List Nat := [0, 1, 0, 4, 12, 31, 63, 127]
theorem reg45b.tab : rtab .any (opsOf Tryd.f32 5) = reg45b.T := by kernel_rfl
theorem reg45b.bits : waitsOk reg45b.T.2 reg45b.B = true := by kernel_rfl
set_option maxHeartbeats 1000000 in
set_option maxRecDepth 100000 in
theorem result_walk (w : World) (br bm : Nat) (s : Int) (A1 : Option Addr) (c1 : Nat) (at_ : List Int) (A2 : Option Addr) (c2 : Nat) (tp : List (List Int))
  (hc : w.heap[br]? = some (.cells #[.int .i64 s, .slice A1 at_.length c1, .slice A2 tp.length c2, .map (some bm)] 73 (0, 0))) (h1 : Kd.C (Kd.int .i64) w A1 at_.length at_) (h2 : Kd.C (Kd.slice 3 (Kd.int .i64)) w A2 tp.length tp)
  (ha : at_.length ≤ 1000000) (ht : tp.length ≤ 1000000) (htl : ∀ i : Nat, (rd_L1 tp i).length ≤ 1000000) :
  Calls Tryd.prog 32 #[.pointer (some ⟨br, 0, none⟩)] w (SceneOut w s at_ (tp.map trimL)) := by
 have H1 := Aside0.mk h1
 have H2 := Aside0.mk h2
 have HA := Aside0.mk ha
 have HT := Aside0.mk ht
 have HTL := Aside0.mk htl
 have hz : br < w.heap.size := (Array.getElem?_eq_some_iff.1 hc).1
 obtain ⟨m0, m1, m2, m3⟩ := run_cells4 hc
 clear hc h1 h2 ha ht htl
 go_enter Tryd.func32, Tryd.ntmps32
 go_wp2_with fail
 obtain ⟨W, hW⟩ : ∃ W, w.alloc (Obj.cells #[.int .i64 0, .slice none 0 0, .slice none 0 0] 43) = W := ⟨_, rfl⟩
 have HBW : Aside0 (Below w.heap.size w W) := ⟨by rw [← hW]; exact (Below.refl _ _).alloc (Nat.le_refl _) _⟩
 have HXR : Aside0 (W.heap[w.heap.size]? = some (.cells #[.int .i64 0, .slice none 0 0, .slice none 0 0] 43 (0, 0))) := ⟨by rw [← hW]; exact heap_alloc_new _ _⟩
 have n0 : W.cell? ⟨br, 0, none⟩ = some (.int .i64 s) := pw_cell_below HBW.out m0
 have n1 : W.cell? ⟨br, 1, none⟩ = some (.slice A1 at_.length c1) := pw_cell_below HBW.out m1
 have n2 : W.cell? ⟨br, 2, none⟩ = some (.slice A2 tp.length c2) := pw_cell_below HBW.out m2
 rw [hW]
 clear hW m0 m1 m2 m3
 refine start_ (n := 14) (S := fun w' => w'.cell? ⟨br, 0, none⟩ = some (.int .i64 s) ∧ w'.cell? ⟨br, 1, none⟩ = some (.slice A1 at_.length c1)) (ds := [13]) #[false, false, false, false, false, false, false, false, false, false, false, false, false, false] (by kernel_rfl) rfl rfl ⟨n0, n1⟩ (fun hHeld => ?_); refine with_tabW reg45a.tab reg45a.bits (fun HT_ HW_ => ?_)
 have HB0 := Aside0.mk (below_drew (Below.refl W.heap.size W))
 generalize W.drew = W0 at HB0 hHeld ⊢
 refine pure_ (i := 0) (N := some 6) (v := ?_) (a' := ?_) #[true, false, false, false, false, false, false, false, false, false, false, false, false, false] rfl rfl (any_of HT_.out (by kernel_rfl)) (fun _ _ _ h => h) (Or.inl ⟨by rfl, ?_⟩) ?_ ?_
 rotate_left
 ·intro w'
  go_simp
  with_reducible rfl
 rotate_left
 ·simp only [Act.put, List.setIfInBounds_toArray, List.set_cons_zero, List.set_cons_succ, i64_w, i32_w]
  rfl
 refine pure_ (i := 1) (N := some 7) (v := ?_) (a' := ?_) #[true, true, false, false, false, false, false, false, false, false, false, false, false, false] rfl rfl (any_of HT_.out (by kernel_rfl)) (fun _ _ _ h => h) (Or.inl ⟨by rfl, ?_⟩) ?_ ?_
 rotate_left
 ·intro w'
  go_simp
  with_reducible rfl
 rotate_left
 ·simp only [Act.put, List.setIfInBounds_toArray, List.set_cons_zero, List.set_cons_succ, i64_w, i32_w]
  rfl
 refine pure_ (i := 2) (N := some 8) (v := ?_) (a' := ?_) #[true, true, true, false, false, false, false, false, false, false, false, false, false, false] rfl rfl (any_of HT_.out (by kernel_rfl)) (fun _ _ _ h => h) (Or.inl ⟨by rfl, ?_⟩) ?_ ?_
 rotate_left
 ·intro w'
  go_simp
  with_reducible rfl
 rotate_left
 ·simp only [Act.put, List.setIfInBounds_toArray, List.set_cons_zero, List.set_cons_succ, i64_w, i32_w]
  rfl
 refine pure_ (i := 3) (N := some 9) (v := ?_) (a' := ?_) #[true, true, true, true, false, false, false, false, false, false, false, false, false, false] rfl rfl (any_of HT_.out (by kernel_rfl)) (fun _ _ _ h => h) (Or.inl ⟨by rfl, ?_⟩) ?_ ?_
 rotate_left
 ·intro w'
  go_simp
  with_reducible rfl
 rotate_left
 ·simp only [Act.put, List.setIfInBounds_toArray, List.set_cons_zero, List.set_cons_succ, i64_w, i32_w]
  rfl
 refine take_ (i := 4) (N := some 10) (v := ?_) (a' := ?_) #[true, true, true, true, true, false, false, false, false, false, false, false, false, false] rfl rfl (take_ofW HT_.out HW_.out (by kernel_rfl)) (fun _ _ _ h => h) (Or.inl ⟨by rfl, ?_⟩) hHeld ?_ ?_
 rotate_left
 ·rintro w' ⟨s0, s1⟩
  go_simp
  with_reducible rfl
 rotate_left
 ·simp only [Act.put, List.setIfInBounds_toArray, List.set_cons_zero, List.set_cons_succ, i64_w, i32_w]
  rfl
 refine pure_ (i := 5) (N := some 11) (v := ?_) (a' := ?_) #[true, true, true, true, true, true, false, false, false, false, false, false, false, false] rfl rfl (any_of HT_.out (by kernel_rfl)) (fun _ _ _ h => h) (Or.inl ⟨by rfl, ?_⟩) ?_ ?_
 rotate_left
 ·intro w'
  go_simp
  with_reducible rfl
 rotate_left
 ·simp only [Act.put, List.setIfInBounds_toArray, List.set_cons_zero, List.set_cons_succ, i64_w, i32_w]
  rfl
 refine pure_ (i := 6) (N := some 12) (v := ?_) (a' := ?_) #[true, true, true, true, true, true, true, false, false, false, false, false, false, false] rfl rfl (any_of HT_.out (by kernel_rfl)) (fun _ _ _ h => h) (Or.inl ⟨by rfl, ?_⟩) ?_ ?_
 rotate_left
 ·intro w'
  go_simp
  with_reducible rfl
 rotate_left
 ·simp only [Act.put, List.setIfInBounds_toArray, List.set_cons_zero, List.set_cons_succ, i64_w, i32_w]
  rfl
 refine pure_ (i := 7) (N := some 13) (v := ?_) (a' := ?_) #[true, true, true, true, true, true, true, true, false, false, false, false, false, false] rfl rfl (any_of HT_.out (by kernel_rfl)) (fun _ _ _ h => h) (Or.inl ⟨by rfl, ?_⟩) ?_ ?_
 rotate_left
 ·intro w'
  go_simp
  with_reducible rfl
 rotate_left
 ·simp only [Act.put, List.setIfInBounds_toArray, List.set_cons_zero, List.set_cons_succ, i64_w, i32_w]
  rfl
 refine pure_ (i := 8) (N := some 14) (v := ?_) (a' := ?_) #[true, true, true, true, true, true, true, true, true, false, false, false, false, false] rfl rfl (any_of HT_.out (by kernel_rfl)) (fun _ _ _ h => h) (Or.inl ⟨by rfl, ?_⟩) ?_ ?_
 rotate_left
 ·intro w'
  go_simp
  with_reducible rfl
 rotate_left
 ·simp only [Act.put, List.setIfInBounds_toArray, List.set_cons_zero, List.set_cons_succ, i64_w, i32_w]
  rfl
 refine take_ (i := 9) (N := some 15) (v := ?_) (a' := ?_) #[true, true, true, true, true, true, true, true, true, true, false, false, false, false] rfl rfl (take_ofW HT_.out HW_.out (by kernel_rfl)) (fun _ _ _ h => h) (Or.inl ⟨by rfl, ?_⟩) hHeld ?_ ?_
 rotate_left
 ·rintro w' ⟨s0, s1⟩
  go_simp
  with_reducible rfl
 rotate_left
 ·simp only [Act.put, List.setIfInBounds_toArray, List.set_cons_zero, List.set_cons_succ, i64_w, i32_w]
  rfl
 refine join_ (σ := Option Addr × Nat × Nat) 1 #[true, true, true, true, true, true, true, true, true, true, true, true, true, false] (fun s_ => [(16, .slice s_.1 at_.length s_.2.1), (17, .agg #[.int .i64 s, .slice s_.1 at_.length s_.2.1, .slice none 0 0]), (3, .pointer (some ⟨s_.2.2, 0, none⟩))]) (fun s_ w' => w'.ownsRow w.heap.size 3 1 (.slice s_.1 at_.length s_.2.1) at_.length (at_.map (Value.int .i64)) ∧ w'.heap[s_.2.2]? = some (.cells #[.int .i64 0, .slice none 0 0, .slice none 0 0] 43 (0, 0)) ∧ W.heap.size ≤ s_.2.2 ∧ Below W.heap.size W w') ?_ ?_
 rotate_left
 ·intro hCont
  refine two_ (i := 10) (j := 12) (Ni := some 16) (Nj := some 3) #[true, true, true, true, true, true, true, true, true, true, true, false, false, false] #[true, true, true, true, true, true, true, true, true, true, false, false, true, false] rfl rfl rfl rfl (two_of HT_.out (by kernel_rfl)) (by decide) (by decide) (fun K hK => ?_) (fun K hK => ?_)
  ·skip
   refine goes_ Tryd.func49 (by kernel_rfl) rfl #[.slice A1 at_.length c1] (by rfl) rfl rfl (by (try simp only [List.map_toArray, List.map_cons, List.map_nil]); first | done | rfl) ?_
   refine (clone_calls A1 c1 at_ W0 (Kd.C_below H1.out (HBW.out.trans (HB0.out.mono HBW.out.size))) HA.out).mono ?_
   rintro e w2 ⟨v1, rfl, hO, hB2⟩
   refine ⟨_, rfl, ?_⟩
   obtain ⟨A9, c9, rfl, _, _⟩ := own_C hO
   have HO := Aside0.mk (hO.mono (show w.heap.size ≤ W0.heap.size by have := HB0.out.size; have := HBW.out.size; omega))
   have HB2 := Aside0.mk (HB0.out.trans (hB2.mono HB0.out.size))
   clear hO hB2
   refine hK.out _ _ ⟨pw_cell_below HB2.out n0, pw_cell_below HB2.out n1⟩ (fun hHeld => ?_)
   clear hK K
   refine norm_ (a' := ?_) ?_ ?_
   rotate_left
   ·show Act.put _ (some 16) _ = _
    simp only [Act.put, List.setIfInBounds_toArray, List.set_cons_zero, List.set_cons_succ, i64_w, i32_w]
    rfl
   refine pure_ (i := 11) (N := some 17) (v := ?_) (a' := ?_) #[true, true, true, true, true, true, true, true, true, true, true, true, false, false] rfl rfl (any_of HT_.out (by kernel_rfl)) (fun _ _ _ h => h) (Or.inl ⟨by rfl, ?_⟩) ?_ ?_
   rotate_left
   ·intro w'
    go_simp
    with_reducible rfl
   rotate_left
   ·simp only [Act.put, List.setIfInBounds_toArray, List.set_cons_zero, List.set_cons_succ, i64_w, i32_w]
    rfl
   refine one_ (i := 12) (N := some 3) #[true, true, true, true, true, true, true, true, true, true, true, true, true, false] rfl rfl (one_of HT_.out (by kernel_rfl)) (by decide) (fun K hK => ?_)
   refine box_step ?hg (N := 3) ?hd (cs := #[.int .i64 0, .slice none 0 0, .slice none 0 0]) (t := 43) ?hr ?_; (case hd => rfl); (case hg => rfl); (case hr => first | (go_simp; done) | (go_simp; rfl))
   intro gb hg w4 hbox hb
   have HX := Aside0.mk hbox
   have HGB : Aside0 (W.heap.size ≤ gb) := ⟨by rw [hg]; exact HB2.out.size⟩
   have HB4 := Aside0.mk (HB2.out.trans (hb.mono HB2.out.size))
   have HO4 := Aside0.mk (pw_own_below HO.out hb)
   clear hg hbox hb
   refine hK.out _ _ ⟨pw_cell_below HB4.out n0, pw_cell_below HB4.out n1⟩ (fun hHeld => ?_)
   clear hK K
   refine norm_ (a' := ?_) ?_ ?_
   rotate_left
   ·show Act.put _ (some 3) _ = _
    simp only [Act.put, List.setIfInBounds_toArray, List.set_cons_zero, List.set_cons_succ, i64_w, i32_w]
    rfl
   exact norm_ (by simp only [putAll, Act.put, List.setIfInBounds_toArray, List.set_cons_zero, List.set_cons_succ]) (hCont (A9, c9, gb) _ ⟨HO4.out, HX.out, HGB.out, HB4.out⟩)
  ·skip
   refine box_step ?hg (N := 3) ?hd (cs := #[.int .i64 0, .slice none 0 0, .slice none 0 0]) (t := 43) ?hr ?_; (case hd => rfl); (case hg => rfl); (case hr => first | (go_simp; done) | (go_simp; rfl))
   intro gb hg w4 hbox hb
   have HX := Aside0.mk hbox
   have HGB : Aside0 (W.heap.size ≤ gb) := ⟨by rw [hg]; exact HB0.out.size⟩
   have HB4 := Aside0.mk (HB0.out.trans (hb.mono HB0.out.size))
   clear hg hbox hb
   refine hK.out _ _ ⟨pw_cell_below HB4.out n0, pw_cell_below HB4.out n1⟩ (fun hHeld => ?_)
   clear hK K
   refine norm_ (a' := ?_) ?_ ?_
   rotate_left
   ·show Act.put _ (some 3) _ = _
    simp only [Act.put, List.setIfInBounds_toArray, List.set_cons_zero, List.set_cons_succ, i64_w, i32_w]
    rfl
   refine one_ (i := 10) (N := some 16) #[true, true, true, true, true, true, true, true, true, true, true, false, true, false] rfl rfl (one_of HT_.out (by kernel_rfl)) (by decide) (fun K hK => ?_)
   refine goes_ Tryd.func49 (by kernel_rfl) rfl #[.slice A1 at_.length c1] (by rfl) rfl rfl (by (try simp only [List.map_toArray, List.map_cons, List.map_nil]); first | done | rfl) ?_
   refine (clone_calls A1 c1 at_ w4 (Kd.C_below H1.out (HBW.out.trans (HB4.out.mono HBW.out.size))) HA.out).mono ?_
   rintro e w2 ⟨v1, rfl, hO, hB2⟩
   refine ⟨_, rfl, ?_⟩
   obtain ⟨A9, c9, rfl, _, _⟩ := own_C hO
   have HO := Aside0.mk (hO.mono (show w.heap.size ≤ w4.heap.size by have := HB4.out.size; have := HBW.out.size; omega))
   have HB2 := Aside0.mk (HB4.out.trans (hB2.mono HB4.out.size))
   have HX2 := Aside0.mk ((hB2.block _ (Array.getElem?_eq_some_iff.1 HX.out).1).trans HX.out)
   clear hO hB2
   refine hK.out _ _ ⟨pw_cell_below HB2.out n0, pw_cell_below HB2.out n1⟩ (fun hHeld => ?_)
   clear hK K
   refine norm_ (a' := ?_) ?_ ?_
   rotate_left
   ·show Act.put _ (some 16) _ = _
    simp only [Act.put, List.setIfInBounds_toArray, List.set_cons_zero, List.set_cons_succ, i64_w, i32_w]
    rfl
   refine pure_ (i := 11) (N := some 17) (v := ?_) (a' := ?_) #[true, true, true, true, true, true, true, true, true, true, true, true, true, false] rfl rfl (any_of HT_.out (by kernel_rfl)) (fun _ _ _ h => h) (Or.inl ⟨by rfl, ?_⟩) ?_ ?_
   rotate_left
   ·intro w'
    go_simp
    with_reducible rfl
   rotate_left
   ·simp only [Act.put, List.setIfInBounds_toArray, List.set_cons_zero, List.set_cons_succ, i64_w, i32_w]
    rfl
   exact norm_ (by simp only [putAll, Act.put, List.setIfInBounds_toArray, List.set_cons_zero, List.set_cons_succ]) (hCont (A9, c9, gb) _ ⟨HO.out, HX2.out, HGB.out, HB2.out⟩)
 rintro ⟨A9, c9, bo⟩ w4 ⟨hO9, hX9, hGB, hB4⟩
 refine norm_ (a' := ?_) ?_ ?_
 rotate_left
 ·simp only [putAll, Act.put, List.setIfInBounds_toArray, List.set_cons_zero, List.set_cons_succ]
  rfl
 have HO9 : Aside0 (w4.ownsRow w.heap.size 3 1 (.slice A9 at_.length c9) at_.length (at_.map (Value.int .i64))) := ⟨hO9⟩
 have HX9 : Aside0 (w4.heap[bo]? = some (.cells #[.int .i64 0, .slice none 0 0, .slice none 0 0] 43 (0, 0))) := ⟨hX9⟩
 have HGB : Aside0 (W.heap.size ≤ bo) := ⟨hGB⟩
 have HB4 := Aside0.mk hB4
 clear hO9 hX9 hGB hB4
 refine last_ (i := 13) (N := none) #[true, true, true, true, true, true, true, true, true, true, true, true, true, true] rfl rfl (one_of HT_.out (by kernel_rfl)) (by decide) (fun K hK => ?_)
 have hx9 := HX9.out
 obtain ⟨q0, q1, q2⟩ := trio_cells hx9
 have f0 := run_frozen hx9 0
 have f1 := run_frozen hx9 1
 have f2 := run_frozen hx9 2
 clear hx9
 refine skip_ (w1 := ?_) (by rfl) rfl ?_ ?_
 rotate_left
 ·go_simp
  rfl
 refine hK.out _ _ ?_
 clear hK K
 refine done_ (done_of HT_.out (by kernel_rfl)) ?_
 have HBO : Aside0 (OutAt (((w4.setCell ⟨bo, 0, none⟩ (.int .i64 s)).setCell ⟨bo, 1, none⟩ (.slice A9 at_.length c9)).setCell ⟨bo, 2, none⟩ (.slice none 0 0)) w.heap.size bo s (.slice A9 at_.length c9) at_ (.slice none 0 0) [] []) := ⟨new_out HX9.out (by have := HGB.out; have := HBW.out.size; omega) HO9.out⟩
 have HBF : Aside0 (Below w.heap.size w (((w4.setCell ⟨bo, 0, none⟩ (.int .i64 s)).setCell ⟨bo, 1, none⟩ (.slice A9 at_.length c9)).setCell ⟨bo, 2, none⟩ (.slice none 0 0))) := ⟨(((HBW.out.trans (HB4.out.mono HBW.out.size)).setCell (p := ⟨bo, 0, none⟩) (by have := HGB.out; have := HBW.out.size; simp; omega) _).setCell (p := ⟨bo, 1, none⟩) (by have := HGB.out; have := HBW.out.size; simp; omega) _).setCell (p := ⟨bo, 2, none⟩) (by have := HGB.out; have := HBW.out.size; simp; omega) _⟩
 have HWZ0 : Aside0 (w.heap.size < W.heap.size) := ⟨(Array.getElem?_eq_some_iff.1 HXR.out).1⟩
 have HXF : Aside0 ((((w4.setCell ⟨bo, 0, none⟩ (.int .i64 s)).setCell ⟨bo, 1, none⟩ (.slice A9 at_.length c9)).setCell ⟨bo, 2, none⟩ (.slice none 0 0)).heap[w.heap.size]? = some (.cells #[.int .i64 0, .slice none 0 0, .slice none 0 0] 43 (0, 0))) := ⟨by
  have hne : w.heap.size ≠ bo := by have := HGB.out; have := HWZ0.out; omega
  rw [heap_setCell_other _ ⟨bo, 2, none⟩ _ _ hne, heap_setCell_other _ ⟨bo, 1, none⟩ _ _ hne, heap_setCell_other _ ⟨bo, 0, none⟩ _ _ hne]
  exact (HB4.out.block _ HWZ0.out).trans HXR.out⟩
 have HNB : Aside0 (w.heap.size ≠ bo) := ⟨by have := HGB.out; have := HWZ0.out; omega⟩
 obtain ⟨w5, hw5⟩ : ∃ w5, ((w4.setCell ⟨bo, 0, none⟩ (.int .i64 s)).setCell ⟨bo, 1, none⟩ (.slice A9 at_.length c9)).setCell ⟨bo, 2, none⟩ (.slice none 0 0) = w5 := ⟨_, rfl⟩
 rw [hw5] at HBO HBF HXF
 have k2 : w5.cell? ⟨br, 2, none⟩ = some (.slice A2 tp.length c2) := by
  rw [← hw5]
  have h := pw_cell_below HB4.out n2
  have hne : br ≠ bo := by have := HGB.out; have := HBW.out.size; omega
  rw [cell_other3 hne]; exact h
 first | rw [hw5] | skip
 clear hw5 n0 n1 n2 q0 q1 q2 f0 f1 f2
 go_wp2
 go_loopg [24] tp.length (fun gg s24 wr => ∃ i : Int, s24 = .int .i64 i ∧ Aside0 (0 ≤ i) ∧ Aside0 ((tp.length : Int) - i = gg) ∧ Aside0 (Below w.heap.size w wr) ∧ Aside0 (wr.heap[w.heap.size]? = some (.cells #[.int .i64 0, .slice none 0 0, .slice none 0 0] 43 (0, 0))) ∧ Aside0 (∃ v2 us, OutAt wr w.heap.size bo s (.slice A9 at_.length c9) at_ v2 us ((tp.map trimL).take i.toNat)))
 case atStart => exact ⟨0, rfl, ⟨by omega⟩, ⟨by omega⟩, HBF, HXF, ⟨_, _, by simpa using HBO.out⟩⟩
 case round =>
  obtain ⟨i, rfl, HI, HG, HBR, HM3, HRX⟩ := hrel
  obtain ⟨v2, us, hRun⟩ := HRX.out
  have hi := HI.out
  clear k2
  by_cases cl : i < (tp.length : Int)
  ·have clb : decide (i < (tp.length : Int)) = true := decide_eq_true cl
   obtain ⟨ad, B1, d1, e1, hx, hlc, hC1⟩ := at_L1 (Kd.C_below H2.out HBR.out) i hi cl
   subst e1
   have p1 := eq_true hi
   have q1 := eq_true cl
   have HC1 := Aside0.mk hC1
   have HLC := Aside0.mk hlc
   have HLI : Aside0 ((rd_L1 tp i).length ≤ 1000000) := ⟨by have := HTL.out i.toNat; rw [show ((i.toNat : Nat) : Int) = i by omega] at this; exact this⟩
   have HRI := Aside0.mk hRun
   have HUS : Aside0 (us.length ≤ 1000000) := ⟨by have := hRun.len1; have := HT.out; simp at *; omega⟩
   have HWZ : Aside0 (w.heap.size ≤ wr.heap.size) := ⟨HBR.out.size⟩
   obtain ⟨A7, c7, rfl⟩ := own_slice hRun.row2
   have x2 : wr.cell? ⟨bo, 2, none⟩ = some (.slice A7 us.length c7) := (trio_cells hRun.cells).2.2
   have i0 : 0 ≤ i := HI.out
   have i1 : i ≤ 1000000 := by have := HT.out; omega
   clear hC1 hlc hRun hi cl
   go_wp2
   refine start_ (n := 8) (S := fun w' => w'.cell? ⟨bo, 2, none⟩ = some (.slice A7 us.length c7)) (ds := [7]) #[false, false, false, false, false, false, false, false] (by kernel_rfl) rfl rfl x2 (fun hHeld => ?_); refine with_tabW reg45b.tab reg45b.bits (fun HT_ HW_ => ?_)
   have HB0 := Aside0.mk (below_drew (Below.refl wr.heap.size wr))
   generalize wr.drew = W0 at HB0 hHeld ⊢
   refine pure_ (i := 0) (N := some 28) (v := ?_) (a' := ?_) #[true, false, false, false, false, false, false, false] rfl rfl (any_of HT_.out (by kernel_rfl)) (fun _ _ _ h => h) (Or.inl ⟨by rfl, ?_⟩) ?_ ?_
   rotate_left
   ·intro w'
    go_simp
    with_reducible rfl
   rotate_left
   ·simp only [Act.put, List.setIfInBounds_toArray, List.set_cons_zero, List.set_cons_succ, i64_w, i32_w]
    rfl
   refine take_ (i := 1) (N := some 29) (v := ?_) (a' := ?_) #[true, true, false, false, false, false, false, false] rfl rfl (take_ofW HT_.out HW_.out (by kernel_rfl)) (fun _ _ _ h => h) (Or.inl ⟨by rfl, ?_⟩) hHeld ?_ ?_
   rotate_left
   ·rintro w' s0
    go_simp
    with_reducible rfl
   rotate_left
   ·simp only [Act.put, List.setIfInBounds_toArray, List.set_cons_zero, List.set_cons_succ, i64_w, i32_w]
    rfl
   refine pure_ (i := 2) (N := some 30) (v := ?_) (a' := ?_) #[true, true, true, false, false, false, false, false] rfl rfl (any_of HT_.out (by kernel_rfl)) (fun _ _ _ h => h) (Or.inl ⟨by rfl, ?_⟩) ?_ ?_
   rotate_left
   ·intro w'
    go_simp
    with_reducible rfl
   rotate_left
   ·simp only [Act.put, List.setIfInBounds_toArray, List.set_cons_zero, List.set_cons_succ, i64_w, i32_w]
    rfl
   refine one_ (i := 3) (N := some 31) #[true, true, true, true, false, false, false, false] rfl rfl (one_of HT_.out (by kernel_rfl)) (by decide) (fun K hK => ?_)
   refine goes_ Tryd.func50 (by kernel_rfl) rfl #[.slice B1 (rd_L1 tp i).length d1] (by rfl) rfl rfl (by (try simp only [List.map_toArray, List.map_cons, List.map_nil]); first | done | rfl) ?_
   refine (trimmed_calls B1 d1 (rd_L1 tp i) W0 (Kd.C_below HC1.out HB0.out) HLC.out HLI.out).mono ?_
   rintro e w2 ⟨u, rfl, hO, hB2⟩
   refine ⟨_, rfl, ?_⟩
   obtain ⟨A6, c6, rfl, _, _⟩ := own_C hO
   have HB2 := Aside0.mk (HB0.out.trans (hB2.mono HB0.out.size))
   have HO2 : Aside0 (w2.ownsRow wr.heap.size 3 1 (.slice A6 (trimL (rd_L1 tp i)).length c6) (trimL (rd_L1 tp i)).length ((trimL (rd_L1 tp i)).map (Value.int .i64))) := ⟨hO.mono HB0.out.size⟩
   clear hO hB2
   refine hK.out _ _ (pw_cell_below HB2.out x2) (fun hHeld => ?_)
   clear hK K
   refine norm_ (a' := ?_) ?_ ?_
   rotate_left
   ·show Act.put _ (some 31) _ = _
    simp only [Act.put, List.setIfInBounds_toArray, List.set_cons_zero, List.set_cons_succ, i64_w, i32_w]
    rfl
   refine one_ (i := 4) (N := some 32) #[true, true, true, true, true, false, false, false] rfl rfl (one_of HT_.out (by kernel_rfl)) (by decide) (fun K hK => ?_)
   refine event_step (v := .slice (some ⟨w2.heap.size, 0, none⟩) 1 1) (w1 := w2.alloc (.cells #[(.slice A6 (trimL (rd_L1 tp i)).length c6)] 38)) (by rfl) (by go_simp; first | done | rfl) ?_
   have HB3 := Aside0.mk (HB2.out.alloc HB2.out.size (.cells #[(.slice A6 (trimL (rd_L1 tp i)).length c6)] 38))
   refine hK.out _ _ (pw_cell_below HB3.out x2) (fun hHeld => ?_)
   clear hK K
   refine norm_ (a' := ?_) ?_ ?_
   rotate_left
   ·show Act.put _ (some 32) _ = _
    simp only [Act.put, List.setIfInBounds_toArray, List.set_cons_zero, List.set_cons_succ, i64_w, i32_w]
    rfl
   refine one_ (i := 5) (N := some 33) #[true, true, true, true, true, true, false, false] rfl rfl (one_of HT_.out (by kernel_rfl)) (by decide) (fun K hK => ?_)
   obtain ⟨v2', w5, hrun, r1, hg, r5⟩ := run_append_one w.heap.size 41 38 (.slice none 0 0) 24 Tryd.underlying41 info38 rfl (by decide) (.slice A7 us.length c7) us.length us (.slice A6 (trimL (rd_L1 tp i)).length c6) rfl ((HRI.out.below HB2.out).row2) HUS.out (by have := HB2.out.size; have := HWZ.out; omega)
   obtain ⟨A8, c8, rfl⟩ := own_slice r1
   refine event_step (v := .slice A8 (us.length + 1) c8) (w1 := w5) (by rfl) (exec_append (.tmp 29) (.tmp 32) 41 41 rfl rfl (by rfl) (by rfl) hrun) ?_
   have x5 : w5.cell? ⟨bo, 2, none⟩ = some (.slice A7 us.length c7) := (HRI.out.below HB2.out).outer_cell hg
   have HRP := Aside0.mk (HRI.out.push HB2.out HO2.out hg r1 HWZ.out)
   have HG5 := Aside0.mk hg
   clear hrun r1 hg r5
   refine hK.out _ _ x5 (fun hHeld => ?_)
   clear hK K
   refine norm_ (a' := ?_) ?_ ?_
   rotate_left
   ·show Act.put _ (some 33) _ = _
    simp only [Act.put, List.setIfInBounds_toArray, List.set_cons_zero, List.set_cons_succ, i64_w, i32_w]
    rfl
   refine pure_ (i := 6) (N := some 34) (v := ?_) (a' := ?_) #[true, true, true, true, true, true, true, false] rfl rfl (any_of HT_.out (by kernel_rfl)) (fun _ _ _ h => h) (Or.inl ⟨by rfl, ?_⟩) ?_ ?_
   rotate_left
   ·intro w'
    go_simp
    with_reducible rfl
   rotate_left
   ·simp only [Act.put, List.setIfInBounds_toArray, List.set_cons_zero, List.set_cons_succ, i64_w, i32_w]
    rfl
   refine last_ (i := 7) (N := none) #[true, true, true, true, true, true, true, true] rfl rfl (one_of HT_.out (by kernel_rfl)) (by decide) (fun K hK => ?_)
   have xf : w5.frozen? ⟨bo, 2, none⟩ = false := (HRI.out.below HB2.out).outer_frozen HG5.out
   refine skip_ (w1 := ?_) (by rfl) rfl ?_ ?_
   rotate_left
   ·go_simp
    rfl
   refine hK.out _ _ ?_
   clear hK K
   refine done_ (done_of HT_.out (by kernel_rfl)) ?_
   have hwz := HWZ.out
   have hw2 := HB2.out.size
   go_wp2
   go_roundg ((tp.length : Int) - (i + 1)).toNat
   case measure => have := HG.out; have := of_eq_true q1; omega
   case rel =>
    have i2 := of_eq_true q1
    have hbo := HRI.out.hbo
    have hne : w.heap.size ≠ bo := HNB.out
    have hb5 : w5.heap[w.heap.size]? = some (.cells #[.int .i64 0, .slice none 0 0, .slice none 0 0] 43 (0, 0)) := (HG5.out.block _ (by have := HB2.out.size; have := (Array.getElem?_eq_some_iff.1 HM3.out).1; omega) (fun e => by
     obtain ⟨c', hc'⟩ := own_typed (HRI.out.below HB2.out).row2 w.heap.size e.symm
     exact ne_of_typed ((HB2.out.block _ (Array.getElem?_eq_some_iff.1 HM3.out).1).trans HM3.out) hc' (by decide) rfl)).trans ((HB2.out.block _ (Array.getElem?_eq_some_iff.1 HM3.out).1).trans HM3.out)
    refine ⟨i + 1, rfl, ⟨by omega⟩, ⟨by omega⟩, ⟨?_⟩, ⟨?_⟩, ⟨.slice A8 (us.length + 1) c8, us ++ [.slice A6 (trimL (rd_L1 tp i)).length c6], ?_⟩⟩
    ·exact ((HBR.out.trans (HB2.out.mono HWZ.out)).grown HG5.out (by omega) (fun k hk => own_base HRI.out.row2 k hk)).setCell (p := ⟨bo, 2, none⟩) hbo _
    ·rw [heap_setCell_other _ ⟨bo, 2, none⟩ _ _ hne]; exact hb5
    ·have e9 : (tp.map trimL).take (i + 1).toNat = (tp.map trimL).take i.toNat ++ [trimL (rd_L1 tp i)] := by
      rw [show (i + 1).toNat = i.toNat + 1 by omega, List.take_succ_eq_append_getElem (by simp; omega)]
      simp [rd_L1, List.getD_eq_getElem?_getD, List.getElem?_eq_getElem (show i.toNat < tp.length by omega)]
     rw [e9]
     exact HRP.out
  ·have clb : decide (i < (tp.length : Int)) = false := decide_eq_false cl
   have hft : (tp.map trimL).take i.toNat = tp.map trimL := List.take_of_length_le (by simp; omega)
   rw [hft] at hRun
   have HR0 := Aside0.mk hRun
   obtain ⟨z0, z1, z2⟩ := trio_cells HM3.out
   have y0 := run_frozen HM3.out 0
   have y1 := run_frozen HM3.out 1
   have y2 := run_frozen HM3.out 2
   have hz2 := (Array.getElem?_eq_some_iff.1 HM3.out).1
   obtain ⟨A2', c2', rfl, hl2, hC2⟩ := own_C2 hRun.row2 hRun.len1 hRun.inner
   obtain ⟨x0, x1, x2⟩ := trio_cells hRun.cells
   have hne := HNB.out
   have hne2 := HNB.out.symm
   have HC2 := Aside0.mk hC2
   have HL2 := Aside0.mk hl2
   clear hft hRun hi cl HRX hC2 hl2
   go_wp2
   refine bodyPost_ret (v := .agg #[.int .i64 s, .slice A9 at_.length c9, .slice A2' tp.length c2']) (by simp [results, Tryd.results32, go_sem, z0, z1, z2, hz2]) rfl ?_
   have hfin : Below w.heap.size w (((wr.setCell ⟨w.heap.size, 0, none⟩ (.int .i64 s)).setCell ⟨w.heap.size, 1, none⟩ (.slice A9 at_.length c9)).setCell ⟨w.heap.size, 2, none⟩ (.slice A2' tp.length c2')) := ((HBR.out.setCell (p := ⟨w.heap.size, 0, none⟩) (Nat.le_refl _) _).setCell (p := ⟨w.heap.size, 1, none⟩) (Nat.le_refl _) _).setCell (p := ⟨w.heap.size, 2, none⟩) (Nat.le_refl _) _
   have hgr : wr.grownBy (((wr.setCell ⟨w.heap.size, 0, none⟩ (.int .i64 s)).setCell ⟨w.heap.size, 1, none⟩ (.slice A9 at_.length c9)).setCell ⟨w.heap.size, 2, none⟩ (.slice A2' tp.length c2')) (some w.heap.size) := grown_trans (grown_trans (set_grown wr _ 0 _) (set_grown _ _ 1 _)) (set_grown _ _ 2 _)
   have ne32 : ∀ {n e : Nat} {x : Value} {xs : List Value}, wr.ownsRow w.heap.size e 1 x n xs → e ≠ 43 → ∀ k, x.ownBlock = some k → some w.heap.size ≠ some k := fun hx he k hk e => by
    obtain ⟨c', hc'⟩ := own_typed hx k hk
    injection e with e
    exact ne_of_typed HM3.out hc' (Ne.symm he) e
   have r1 := kept_of HR0.out.row1 hgr (fun k hk => ne32 HR0.out.row1 (by decide) k hk)
   have r2 := kept_of HR0.out.row2 hgr (fun k hk => ne32 HR0.out.row2 (by decide) k hk)
   have r3 : ∀ (i : Nat) (u : Value) (l : List Int), us[i]? = some u → (tp.map trimL)[i]? = some l → (((wr.setCell ⟨w.heap.size, 0, none⟩ (.int .i64 s)).setCell ⟨w.heap.size, 1, none⟩ (.slice A9 at_.length c9)).setCell ⟨w.heap.size, 2, none⟩ (.slice A2' tp.length c2')).ownsRow w.heap.size 3 1 u l.length (l.map (Value.int .i64)) := fun i u l hu hl => kept_of (HR0.out.inner i u l hu hl) hgr (fun k hk => ne32 (HR0.out.inner i u l hu hl) (by decide) k hk)
   refine ⟨_, rfl, fun w'' hag => ?_, hfin⟩
   obtain ⟨X1, y1', e1, h1l, h1c⟩ := own_C (own_agree r1 hag)
   obtain ⟨X2, y2', e2, h2l, h2c⟩ := own_C2 (own_agree r2 hag) HR0.out.len1 (fun i u l hu hl => own_agree (r3 i u l hu hl) hag)
   refine ⟨A9, c9, A2', c2', by rw [List.length_map], ?_, ?_, ?_, ?_⟩
   ·injection e1 with e3 _ e4; rw [e4]; exact h1l
   ·injection e1 with e3 _ e4; subst e3; exact h1c
   ·injection e2 with e3 _ e4; rw [e4]; exact h2l
   ·injection e2 with e3 _ e4; subst e3; exact h2c
end Go.Proofs.YtfoodfhhdbaieaaDoor.Giv
