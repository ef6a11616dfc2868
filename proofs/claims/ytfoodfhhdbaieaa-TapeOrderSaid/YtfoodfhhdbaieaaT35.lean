/- The law TapeOrder walked. -/
import Derived.Test.YtfoodfhhdbaieaaT25
import Derived.Test.YtfoodfhhdbaieaaT28
import Derived.Test.YtfoodfhhdbaieaaT32
import Derived.Test.YtfoodfhhdbaieaaT33
import Derived.Test.YtfoodfhhdbaieaaKax5
namespace Go.Proofs.Ytfoodfhhdbaieaa.Giv
set_option linter.unusedSimpArgs false
set_option linter.unusedVariables false
open Go.RowKit Go.Shelf Go.Proofs.YtfoodfhhdbaieaaW.PrintWords Go.Proofs.YtfoodfhhdbaieaaW.PrintLast Go.Proofs.YtfoodfhhdbaieaaW.PrintMore
open Go.Proofs.Ytfoodfhhdbaieaa.Ka (S54 k54 z54 rd_T54 at_T54 k54_open k54_mk k54_openM k54_mkM rd_L1 at_L1 info3 info25 info54)

theorem tape_cells5 {w : World} {k : Nat} {a b c d e : Value} {t : TypeId} (h : w.heap[k]? = some (.cells #[a, b, c, d, e] t (0, 0))) : w.cell? ⟨k, 0, none⟩ = some a ∧ w.cell? ⟨k, 1, none⟩ = some b ∧ w.cell? ⟨k, 2, none⟩ = some c ∧ w.cell? ⟨k, 3, none⟩ = some d ∧ w.cell? ⟨k, 4, none⟩ = some e := by
  simp [World.cell?, h]
theorem two_cells {w : World} {k : Nat} {a b : Value} {t : TypeId} (h : w.heap[k]? = some (.cells #[a, b] t (0, 0))) : w.cell? ⟨k, 0, none⟩ = some a ∧ w.cell? ⟨k, 1, none⟩ = some b := by
  simp [World.cell?, h]
theorem cheap_C5 (most : Int) (w : World) : Calls Try.prog 14 #[.int .i64 most] w fun e w' => e = .returned (.bool (decide (most ≤ 20000))) ∧ Below w.heap.size w w' := by
  refine (Ka.commodatumlaw20_cheap.calls most _ w rfl).mono ?_
  rintro e w' ⟨rfl, ⟨n, rfl⟩⟩
  exact ⟨rfl, pw_below_drewN (Below.refl _ _) n⟩
def runS5 (q : Sc × Nat × Int) (x y : Option Addr × Nat) : Value := .agg #[.int .i64 q.1.s, .slice x.1 q.1.at_.length x.2, .slice y.1 q.1.tp.length y.2]
def runV5 (q : Sc × Nat × Int) (x y : Option Addr × Nat) : Value := .tuple #[runS5 q x y, .int .i64 q.2.1, .int .i64 q.2.2]
theorem runV5_inj {q : Sc × Nat × Int} {B1 B2 C1 C2 : Option Addr} {d1 d2 e1 e2 : Nat} (h : runV5 q (B1, d1) (B2, d2) = runV5 q (C1, e1) (C2, e2)) : C1 = B1 ∧ e1 = d1 ∧ C2 = B2 ∧ e2 = d2 := by
  simp [runV5, runS5] at h
  exact ⟨h.1.1.symm, h.1.2.symm, h.2.1.symm, h.2.2.symm⟩
/-- A scene that reads when block g has been written too. -/
def Far (q : Sc × Nat × Int) (w : World) (g : Nat) (v : Value) : Prop := ∀ (u : World) (a b c : Value), Below w.heap.size w u → SceneV (((u.setCell ⟨g, 0, none⟩ a).setCell ⟨g, 1, none⟩ b).setCell ⟨g, 2, none⟩ c) v q.1.s q.1.at_ q.1.tp
/-- The call done, the variable made: what is known. -/
def RunR (X : World) (q : Sc × Nat × Int) : Bool → Bool → Value → Value → World → Prop
  | false, false, _, _, _ => True
  | true, false, x8, _, w => ∃ x y, x8 = runV5 q x y ∧ SceneV w (runS5 q x y) q.1.s q.1.at_ q.1.tp
  | false, true, _, x13, w => ∃ g, x13 = .pointer (some ⟨g, 0, none⟩) ∧ w.heap[g]? = some (.cells #[.int .i64 0, .slice none 0 0, .slice none 0 0] 32 (0, 0)) ∧ X.heap.size ≤ g
  | true, true, x8, x13, w => ∃ x y g, x8 = runV5 q x y ∧ x13 = .pointer (some ⟨g, 0, none⟩) ∧ w.heap[g]? = some (.cells #[.int .i64 0, .slice none 0 0, .slice none 0 0] 32 (0, 0)) ∧ X.heap.size ≤ g ∧ Far q w g (runS5 q x y)
theorem heap_below {w w' : World} {g : Nat} {o : Obj} (h : w.heap[g]? = some o) (hb : Below w.heap.size w w') : w'.heap[g]? = some o := (hb.block g (Array.getElem?_eq_some_iff.1 h).1).trans h
theorem RunR_keep {X : World} {q : Sc × Nat × Int} (d e : Bool) (x8 x13 : Value) (w w' : World) (h : RunR X q d e x8 x13 w) (hb : Below w.heap.size w w') : RunR X q d e x8 x13 w' := by
  cases d <;> cases e
  · trivial
  · obtain ⟨g, e1, e2, e3⟩ := h
    exact ⟨g, e1, heap_below e2 hb, e3⟩
  · obtain ⟨x, y, e1, e2⟩ := h
    exact ⟨x, y, e1, SceneV_below e2 hb⟩
  · obtain ⟨x, y, g, e1, e2, e3, e4, e5⟩ := h
    exact ⟨x, y, g, e1, e2, heap_below e3 hb, e4, fun u a b c hu => e5 u a b c (below_step hb hu)⟩
theorem sceneV_form {w : World} {v : Value} {q : Sc × Nat × Int} (h : SceneV w v q.1.s q.1.at_ q.1.tp) : ∃ x y, v = runS5 q x y := by
  obtain ⟨A1, c1, A2, c2, rfl, _⟩ := h
  exact ⟨(A1, c1), (A2, c2), rfl⟩
theorem RunR_call {X w w' : World} {q : Sc × Nat × Int} {e : Bool} {x8 x13 : Value} {en : Ending} (h : RunR X q false e x8 x13 w) (h2 : RunAnsF w q en w') : ∃ v, en = .returned v ∧ RunR X q true e v x13 w' ∧ Below w.heap.size w w' := by
  obtain ⟨v, rfl, hv, hb⟩ := h2
  have h0 := hv w' (Nat.le_refl _) (fun _ _ _ => rfl)
  obtain ⟨x, y, rfl⟩ := sceneV_form h0
  refine ⟨_, rfl, ?_, hb⟩
  cases e
  · exact ⟨x, y, rfl, h0⟩
  · obtain ⟨g, e1, e2, e3⟩ := h
    have hg := (Array.getElem?_eq_some_iff.1 e2).1
    refine ⟨x, y, g, rfl, e1, heap_below e2 hb, e3, fun u a b c hu => hv _ (by simpa using hu.size) (fun k h1 h3 => ?_)⟩
    have hne : (⟨g, 0, none⟩ : Addr).block ≠ k := by show g ≠ k; omega
    rw [heap_setCell_other _ ⟨g, 2, none⟩ k _ hne.symm, heap_setCell_other _ ⟨g, 1, none⟩ k _ hne.symm, heap_setCell_other _ ⟨g, 0, none⟩ k _ hne.symm]
    exact hu.block k h3
theorem RunR_alloc {X w : World} {q : Sc × Nat × Int} {d : Bool} {x8 x13 : Value} (h : RunR X q d false x8 x13 w) (hb : Below X.heap.size X w) : RunR X q d true x8 (.pointer (some ⟨w.heap.size, 0, none⟩)) (w.alloc (.cells #[.int .i64 0, .slice none 0 0, .slice none 0 0] 32)) := by
  cases d
  · exact ⟨_, rfl, heap_alloc_new _ _, hb.size⟩
  · obtain ⟨x, y, e1, e2⟩ := h
    refine ⟨x, y, _, e1, rfl, heap_alloc_new _ _, hb.size, fun u a b c hu => SceneV_below e2 ?_⟩
    have h1 : Below w.heap.size w u := ((Below.refl w.heap.size w).alloc (Nat.le_refl _) _).trans (hu.mono (by simp))
    exact ((h1.setCell (p := ⟨w.heap.size, 0, none⟩) (Nat.le_refl _) _).setCell (p := ⟨w.heap.size, 1, none⟩) (Nat.le_refl _) _).setCell (p := ⟨w.heap.size, 2, none⟩) (Nat.le_refl _) _
def SceneAt (q : Sc × Nat × Int) (V : World) (g : Nat) (p r : Value) : Prop := V.heap[g]? = some (.cells #[.int .i64 q.1.s, p, r] 32 (0, 0)) ∧ SceneV V (.agg #[.int .i64 q.1.s, p, r]) q.1.s q.1.at_ q.1.tp
theorem scene_below {q : Sc × Nat × Int} {V V' : World} {g : Nat} {p r : Value} (h : SceneAt q V g p r) (hb : Below V.heap.size V V') : SceneAt q V' g p r := ⟨heap_below h.1 hb, SceneV_below h.2 hb⟩
theorem scene_drew {q : Sc × Nat × Int} {V : World} {g : Nat} {p r : Value} (h : SceneAt q V g p r) : SceneAt q V.drew g p r := scene_below h (below_drew (Below.refl _ _))
theorem heap_drew {V : World} {g : Nat} {o : Obj} (h : V.heap[g]? = some o) : V.drew.heap[g]? = some o := heap_below h (below_drew (Below.refl _ _))
theorem grown_below {B g : Nat} {w w1 : World} (hg : w.grownBy w1 (some g)) (hB : B ≤ g) (hs : B ≤ w.heap.size) : Below B w w1 := ⟨hg.os, hg.tape, hg.output, hg.size, fun k hk => hg.block k (by omega) (fun e => by injection e with e; omega)⟩
-- THE TABLES
def regO4.T : Bool × List (List Nat × List Nat) := (true, [([], []), ([0], [0]), ([], []), ([1, 2], [1, 2]), ([], []), ([3, 4], [3, 4]), ([], []), ([5, 6], [5, 6]), ([], []), ([8], [8]), ([], []), ([9, 10], [9, 10]), ([], []), ([11, 12], [11, 12]), ([], []), ([13, 14], [13, 14]), ([7, 0, 1, 2, 3, 4, 5, 6, 7], [7]), ([15, 16, 0, 1, 2, 3, 4, 5, 6, 7, 8, 9, 10, 11, 12, 13, 14, 15, 16], [15])])
def regO4.B : List Nat := [0, 1, 0, 7, 0, 31, 0, 127, 0, 256, 0, 1792, 0, 7936, 0, 32512, 255, 131071]
theorem regO4.tab : rtab .any (opsOf Try.f5 4) = regO4.T := by kernel_rfl
theorem regO4.bits : waitsOk regO4.T.2 regO4.B = true := by kernel_rfl
def regO7.T : Bool × List (List Nat × List Nat) := (true, [([], []), ([0], [0]), ([], []), ([], []), ([3], [3]), ([], []), ([4, 5], [4, 5]), ([6], [6]), ([1, 2, 0, 1, 2, 3, 4, 5, 6, 7], [1, 2]), ([8, 7, 0, 1, 2, 3, 4, 5, 6, 7], [7, 8])])
def regO7.B : List Nat := [0, 1, 0, 0, 8, 0, 56, 120, 255, 511]
theorem regO7.tab : rtab .any (opsOf Try.f5 7) = regO7.T := by kernel_rfl
theorem regO7.bits : waitsOk regO7.T.2 regO7.B = true := by kernel_rfl
def regO9.T : Bool × List (List Nat × List Nat) := (true, [([], []), ([0], [0]), ([1], [1]), ([], []), ([], []), ([4], [4]), ([3, 5, 2], [3, 5]), ([], []), ([2, 6, 7, 6], [2, 6, 7]), ([8], [8]), ([9], [9]), ([9], [9]), ([9], [9]), ([], []), ([13, 10, 8, 0, 1, 2, 3, 4, 5, 6, 7, 8, 9, 10, 13], [10, 13]), ([11, 14, 0, 1, 2, 3, 4, 5, 6, 7, 8, 9, 10, 11, 13, 14], [11]), ([12, 15, 0, 1, 2, 3, 4, 5, 6, 7, 8, 9, 10, 11, 12, 13, 14, 15], [12])])
def regO9.B : List Nat := [0, 1, 3, 0, 0, 16, 63, 0, 255, 511, 1023, 1023, 1023, 0, 10239, 28671, 65535]
theorem regO9.tab : rtab .any (opsOf Try.f5 9) = regO9.T := by kernel_rfl
theorem regO9.bits : waitsOk regO9.T.2 regO9.B = true := by kernel_rfl
def regO9.bits_ (p b c d e : Bool) : Array Bool := #[true, true, p, b, true, true, c, true, d, false, false, false, false, e, false, false, false]
theorem regO9.steps : ∀ p b c d e, (e = false → false = false) → (p = false → false = false) → (d = true → e = true) → goodL p b c d = true → cntL p b c d e < 5 → readyT regO9.T.2 (regO9.bits_ p b c d e).toList ≠ [] ∧ ∀ i ∈ readyT regO9.T.2 (regO9.bits_ p b c d e).toList, i ∉ ([14] : List Nat) ∧ LawStepG regO9.bits_ 2 3 6 8 13 p b c d e i := by decide +kernel
def regO10.T : Bool × List (List Nat × List Nat) := (true, [([], []), ([0], [0]), ([], []), ([], []), ([3], [3]), ([2, 4, 1], [2, 4]), ([], []), ([1, 5, 6, 5], [1, 5, 6]), ([7], [7]), ([8], [8]), ([8], [8]), ([8], [8]), ([], []), ([12, 9, 7, 0, 1, 2, 3, 4, 5, 6, 7, 8, 9, 12], [9, 12]), ([10, 13, 0, 1, 2, 3, 4, 5, 6, 7, 8, 9, 10, 12, 13], [10]), ([11, 14, 0, 1, 2, 3, 4, 5, 6, 7, 8, 9, 10, 11, 12, 13, 14], [11])])
def regO10.B : List Nat := [0, 1, 0, 0, 8, 31, 0, 127, 255, 511, 511, 511, 0, 5119, 14335, 32767]
theorem regO10.tab : rtab .any (opsOf Try.f5 10) = regO10.T := by kernel_rfl
theorem regO10.bits : waitsOk regO10.T.2 regO10.B = true := by kernel_rfl
def regO10.bits_ (p b c d e : Bool) : Array Bool := #[true, p, b, true, true, c, true, d, false, false, false, false, e, false, false, false]
theorem regO10.steps : ∀ p b c d e, (e = false → false = false) → (p = false → false = false) → (d = true → e = true) → goodL p b c d = true → cntL p b c d e < 5 → readyT regO10.T.2 (regO10.bits_ p b c d e).toList ≠ [] ∧ ∀ i ∈ readyT regO10.T.2 (regO10.bits_ p b c d e).toList, i ∉ ([13] : List Nat) ∧ LawStepG regO10.bits_ 1 2 5 7 12 p b c d e i := by decide +kernel
def regO11.T : Bool × List (List Nat × List Nat) := (true, [([], []), ([0], [0]), ([1], [1]), ([], []), ([], []), ([4], [4]), ([3, 5, 2], [3, 5]), ([], []), ([2, 6, 7, 6], [2, 6, 7]), ([8], [8]), ([9], [9]), ([9], [9]), ([10, 8, 0, 1, 2, 3, 4, 5, 6, 7, 8, 9, 10], [10]), ([11, 12, 0, 1, 2, 3, 4, 5, 6, 7, 8, 9, 10, 11, 12], [11])])
def regO11.B : List Nat := [0, 1, 3, 0, 0, 16, 63, 0, 255, 511, 1023, 1023, 2047, 8191]
theorem regO11.tab : rtab .any (opsOf Try.f5 11) = regO11.T := by kernel_rfl
theorem regO11.bits : waitsOk regO11.T.2 regO11.B = true := by kernel_rfl
def regO11.bits_ (p b c d e : Bool) : Array Bool := #[true, true, p, b, true, true, c, true, d, false, false, false, false, false]
theorem regO11.steps : ∀ p b c d e, (e = false → true = false) → (p = false → false = false) → (d = true → e = true) → goodL p b c d = true → cntL p b c d e < 5 → readyT regO11.T.2 (regO11.bits_ p b c d e).toList ≠ [] ∧ ∀ i ∈ readyT regO11.T.2 (regO11.bits_ p b c d e).toList, i ∉ ([] : List Nat) ∧ LawStepG regO11.bits_ 2 3 6 8 99 p b c d e i := by decide +kernel
def regO12.T : Bool × List (List Nat × List Nat) := (true, [([], []), ([], []), ([], []), ([2], [2]), ([1, 3], [1, 3]), ([], []), ([0, 4, 5, 4], [0, 4, 5]), ([6], [6]), ([7], [7]), ([7], [7]), ([8, 6, 0, 1, 2, 3, 4, 5, 6, 7, 8], [8]), ([9, 10, 0, 1, 2, 3, 4, 5, 6, 7, 8, 9, 10], [9])])
def regO12.B : List Nat := [0, 0, 0, 4, 14, 0, 63, 127, 255, 255, 511, 2047]
theorem regO12.tab : rtab .any (opsOf Try.f5 12) = regO12.T := by kernel_rfl
theorem regO12.bits : waitsOk regO12.T.2 regO12.B = true := by kernel_rfl
def regO12.bits_ (p b c d e : Bool) : Array Bool := #[true, b, true, true, c, true, d, false, false, false, false, false]
theorem regO12.steps : ∀ p b c d e, (e = false → true = false) → (p = false → true = false) → (d = true → e = true) → goodL p b c d = true → cntL p b c d e < 5 → readyT regO12.T.2 (regO12.bits_ p b c d e).toList ≠ [] ∧ ∀ i ∈ readyT regO12.T.2 (regO12.bits_ p b c d e).toList, i ∉ ([] : List Nat) ∧ LawStepG regO12.bits_ 99 1 4 6 99 p b c d e i := by decide +kernel
-- END TABLES
set_option maxHeartbeats 4000000 in
set_option maxRecDepth 100000 in
theorem tapeOrder_walk (a0 a1 a2 : Int) (A : Option Addr) (c : Nat) (l : List S54) (A5 : Option Addr) (c5 : Nat) (inp : List Int) (most t0 t1 : Int) (w : World) (hr : Kd.C k54 w A l.length l) (hlc : l.length ≤ c) (h5 : Kd.C (Kd.int .i64) w A5 inp.length inp) (hlc5 : inp.length ≤ c5) (hf : ∀ r ∈ l, Fits r) :
    Calls Try.prog 5 #[.agg #[.int .i64 a0, .int .i64 a1, .int .i64 a2, .slice A l.length c, .slice A5 inp.length c5], .int .i64 most, .agg #[.int .i64 t0, .int .i64 t1]] w fun e w' => e = .returned (.bool true) ∧ Below w.heap.size w w' := by
  obtain ⟨kb, rb, hkb, hsmall⟩ := big_total a0 a1 a2 (inp := inp) hf
  obtain ⟨W, hW⟩ : ∃ W, (w.alloc (Obj.cells #[.int .i64 a0, .int .i64 a1, .int .i64 a2, .slice A l.length c, .slice A5 inp.length c5] 27)).alloc (Obj.cells #[.int .i64 t0, .int .i64 t1] 52) = W := ⟨_, rfl⟩
  have hb0 : Below w.heap.size w W := by rw [← hW]; exact ((Below.refl _ _).alloc (Nat.le_refl _) _).alloc (by simp) _
  have hz1 : w.heap.size + 1 < W.heap.size := by rw [← hW]; simp
  have hz : w.heap.size < W.heap.size := by omega
  have hbx : W.heap[w.heap.size]? = some (.cells #[.int .i64 a0, .int .i64 a1, .int .i64 a2, .slice A l.length c, .slice A5 inp.length c5] 27 (0, 0)) := by rw [← hW]; rw [heap_alloc_old (h := by simp)]; exact heap_alloc_new _ _
  have hbt : W.heap[w.heap.size + 1]? = some (.cells #[.int .i64 t0, .int .i64 t1] 52 (0, 0)) := by
    rw [← hW]
    have := heap_alloc_new (w.alloc (Obj.cells #[.int .i64 a0, .int .i64 a1, .int .i64 a2, .slice A l.length c, .slice A5 inp.length c5] 27)) (Obj.cells #[.int .i64 t0, .int .i64 t1] 52)
    simpa using this
  obtain ⟨k0, k1, k2, k3, k4⟩ := tape_cells5 hbx
  obtain ⟨u0, u1⟩ := two_cells hbt
  have HBIG := Aside0.mk (Ka.commodatumlaw20_big.calls kb a0 a1 a2 A c l A5 c5 inp rb W (Kd.C_below hr hb0) hlc (Kd.C_below h5 hb0) hlc5 hkb)
  have HW := Aside0.mk hW
  have HB0 := Aside0.mk hb0
  have HBX := Aside0.mk hbx
  have HBT := Aside0.mk hbt
  have HR := Aside0.mk (Kd.C_below hr hb0)
  have H5 := Aside0.mk (Kd.C_below h5 hb0)
  have HL5 := Aside0.mk hlc5
  have HSM := Aside0.mk hsmall
  by_cases hA : rb = true ∨ ¬ (most ≤ 20000) ∨ l.length = 0
  · clear hr hlc h5 hlc5 hf hkb hsmall hW hb0 hbx hbt HR H5 HL5 HSM hz1
    have hA' : (rb = true) ∨ (rb = false ∧ ¬ most ≤ 20000) ∨ (rb = false ∧ most ≤ 20000 ∧ l.length = 0) := by
      cases rb with
      | true => exact .inl rfl
      | false =>
        by_cases h2 : most ≤ 20000
        · refine .inr (.inr ⟨rfl, h2, ?_⟩)
          rcases hA with h | h | h
          · cases h
          · exact absurd h2 h
          · exact h
        · exact .inr (.inl ⟨rfl, h2⟩)
    clear hA
    have HB := HB0
    rcases hA' with rfl | ⟨rfl, h2⟩ | ⟨rfl, h2, h3⟩
    · go_enter Try.func5, Try.ntmps5
      go_wp2_with (first
        | (go_at_call 9; rw [HW.out]; refine HBIG.out.mono ?_; rintro e w1 ⟨rfl, hb⟩; have n0 := Aside0.mk (below_step HB.out hb); clear HB hb; have HB := n0; clear n0)
        | (go_at_call 10; refine (awake_walk _).mono ?_; rintro e w2 ⟨rfl, hb⟩; have n0 := Aside0.mk (below_step HB.out hb); clear HB hb; have HB := n0; clear n0))
      go_ret
      exact ⟨rfl, HB.out⟩
    · have d2 : decide (most ≤ 20000) = false := decide_eq_false h2
      clear h2
      go_enter Try.func5, Try.ntmps5
      go_wp2_with (first
        | (go_at_call 9; rw [HW.out]; refine HBIG.out.mono ?_; rintro e w1 ⟨rfl, hb⟩; have n0 := Aside0.mk (below_step HB.out hb); clear HB hb; have HB := n0; clear n0)
        | (go_at_call 14; refine (cheap_C5 most _).mono ?_; rintro e w3 ⟨rfl, hb⟩; have n0 := Aside0.mk (below_step HB.out hb); clear HB hb; have HB := n0; clear n0)
        | (go_at_call 10; refine (awake_walk _).mono ?_; rintro e w2 ⟨rfl, hb⟩; have n0 := Aside0.mk (below_step HB.out hb); clear HB hb; have HB := n0; clear n0))
      go_ret
      exact ⟨rfl, HB.out⟩
    · have d2 : decide (most ≤ 20000) = true := decide_eq_true h2
      have d3 : (((l.length : Int)) == 0) = true := by simpa using h3
      have HX := Aside0.mk (Below.refl W.heap.size W)
      clear h2 h3
      go_enter Try.func5, Try.ntmps5
      go_wp2_with (first
        | (go_at_call 9; rw [HW.out]; refine HBIG.out.mono ?_; rintro e w1 ⟨rfl, hb⟩; have n0 := Aside0.mk (below_step HX.out hb); clear HX hb; have HX := n0; clear n0)
        | (go_at_call 14; refine (cheap_C5 most _).mono ?_; rintro e w3 ⟨rfl, hb⟩; have n0 := Aside0.mk (below_step HX.out hb); clear HX hb; have HX := n0; clear n0; have p3 := ((bcell HX.out).1 _ 3 hz).trans k3)
        | (go_at_call 10; refine (awake_walk _).mono ?_; rintro e w2 ⟨rfl, hb⟩; have n0 := Aside0.mk (below_step HX.out hb); clear HX hb; have HX := n0; clear n0))
      go_ret
      exact ⟨rfl, below_step HB.out HX.out⟩
  · obtain ⟨rfl, h2, h3⟩ : rb = false ∧ most ≤ 20000 ∧ l.length ≠ 0 := by
      cases rb <;> simp at hA ⊢
      omega
    have d2 : decide (most ≤ 20000) = true := decide_eq_true h2
    have d3 : (((l.length : Int)) == 0) = false := by simpa using h3
    have hne : ¬ (l = []) := fun e => h3 (by rw [e]; rfl)
    obtain ⟨s1, s2, s3⟩ := hsmall rfl
    have HS1 := Aside0.mk s1
    have HS2 := Aside0.mk s2
    have HS3 := Aside0.mk s3
    have H3 := Aside0.mk h3
    clear hr hlc h5 hlc5 hf hkb hsmall hW hb0 hbx hbt hA HSM s1 s2 s3 h2 h3
    have HB := Aside0.mk (Below.refl W.heap.size W)
    go_enter Try.func5, Try.ntmps5
    go_wp2_with (first
      | (go_at_call 9; rw [HW.out]; refine HBIG.out.mono ?_; rintro e w1 ⟨rfl, hb⟩; have n0 := Aside0.mk (below_step HB.out hb); clear HB hb; have HB := n0; clear n0)
      | (go_at_call 14; refine (cheap_C5 most _).mono ?_; rintro e w3 ⟨rfl, hb⟩; have n0 := Aside0.mk (below_step HB.out hb); clear HB hb; have HB := n0; clear n0; have p3 := ((bcell HB.out).1 _ 3 hz).trans k3))
    clear p3
    -- REGION
    obtain ⟨hcc4, _⟩ := bcell HB.out
    refine start_ (n := 18) (S := fun w' => w'.cell? ⟨w.heap.size + 1, 0, none⟩ = some (.int .i64 t0) ∧ w'.cell? ⟨w.heap.size + 1, 1, none⟩ = some (.int .i64 t1)) (ds := []) #[false, false, false, false, false, false, false, false, false, false, false, false, false, false, false, false, false, false] (by kernel_rfl) rfl rfl ⟨(hcc4 _ 0 hz1).trans u0, (hcc4 _ 1 hz1).trans u1⟩ (fun hHeld => ?_); refine with_tabW regO4.tab regO4.bits (fun HT_ HW_ => ?_)
    clear hcc4
    have HBD := Aside0.mk (below_drew1 HB.out)
    clear HB
    have HB := HBD
    clear HBD
    generalize w3.drew = X4 at HB hHeld ⊢
    refine pure_ (i := 0) (N := some 41) (v := ?_) (a' := ?_) #[true, false, false, false, false, false, false, false, false, false, false, false, false, false, false, false, false, false] rfl rfl (any_of HT_.out (by kernel_rfl)) (fun _ _ _ h => h) (Or.inl ⟨by rfl, ?_⟩) ?_ ?_
    rotate_left
    · intro w'
      go_simp
      with_reducible rfl
    rotate_left
    · simp only [Act.put, List.setIfInBounds_toArray, List.set_cons_zero, List.set_cons_succ, i64_w, i32_w]
      rfl
    refine pure_ (i := 2) (N := some 43) (v := ?_) (a' := ?_) #[true, false, true, false, false, false, false, false, false, false, false, false, false, false, false, false, false, false] rfl rfl (any_of HT_.out (by kernel_rfl)) (fun _ _ _ h => h) (Or.inl ⟨by rfl, ?_⟩) ?_ ?_
    rotate_left
    · intro w'
      go_simp
      with_reducible rfl
    rotate_left
    · simp only [Act.put, List.setIfInBounds_toArray, List.set_cons_zero, List.set_cons_succ, i64_w, i32_w]
      rfl
    refine pure_ (i := 4) (N := some 45) (v := ?_) (a' := ?_) #[true, false, true, false, true, false, false, false, false, false, false, false, false, false, false, false, false, false] rfl rfl (any_of HT_.out (by kernel_rfl)) (fun _ _ _ h => h) (Or.inl ⟨by rfl, ?_⟩) ?_ ?_
    rotate_left
    · intro w'
      go_simp
      with_reducible rfl
    rotate_left
    · simp only [Act.put, List.setIfInBounds_toArray, List.set_cons_zero, List.set_cons_succ, i64_w, i32_w]
      rfl
    refine pure_ (i := 6) (N := some 47) (v := ?_) (a' := ?_) #[true, false, true, false, true, false, true, false, false, false, false, false, false, false, false, false, false, false] rfl rfl (any_of HT_.out (by kernel_rfl)) (fun _ _ _ h => h) (Or.inl ⟨by rfl, ?_⟩) ?_ ?_
    rotate_left
    · intro w'
      go_simp
      with_reducible rfl
    rotate_left
    · simp only [Act.put, List.setIfInBounds_toArray, List.set_cons_zero, List.set_cons_succ, i64_w, i32_w]
      rfl
    refine pure_ (i := 8) (N := some 49) (v := ?_) (a' := ?_) #[true, false, true, false, true, false, true, false, true, false, false, false, false, false, false, false, false, false] rfl rfl (any_of HT_.out (by kernel_rfl)) (fun _ _ _ h => h) (Or.inl ⟨by rfl, ?_⟩) ?_ ?_
    rotate_left
    · intro w'
      go_simp
      with_reducible rfl
    rotate_left
    · simp only [Act.put, List.setIfInBounds_toArray, List.set_cons_zero, List.set_cons_succ, i64_w, i32_w]
      rfl
    refine pure_ (i := 10) (N := some 51) (v := ?_) (a' := ?_) #[true, false, true, false, true, false, true, false, true, false, true, false, false, false, false, false, false, false] rfl rfl (any_of HT_.out (by kernel_rfl)) (fun _ _ _ h => h) (Or.inl ⟨by rfl, ?_⟩) ?_ ?_
    rotate_left
    · intro w'
      go_simp
      with_reducible rfl
    rotate_left
    · simp only [Act.put, List.setIfInBounds_toArray, List.set_cons_zero, List.set_cons_succ, i64_w, i32_w]
      rfl
    refine pure_ (i := 12) (N := some 53) (v := ?_) (a' := ?_) #[true, false, true, false, true, false, true, false, true, false, true, false, true, false, false, false, false, false] rfl rfl (any_of HT_.out (by kernel_rfl)) (fun _ _ _ h => h) (Or.inl ⟨by rfl, ?_⟩) ?_ ?_
    rotate_left
    · intro w'
      go_simp
      with_reducible rfl
    rotate_left
    · simp only [Act.put, List.setIfInBounds_toArray, List.set_cons_zero, List.set_cons_succ, i64_w, i32_w]
      rfl
    refine pure_ (i := 14) (N := some 55) (v := ?_) (a' := ?_) #[true, false, true, false, true, false, true, false, true, false, true, false, true, false, true, false, false, false] rfl rfl (any_of HT_.out (by kernel_rfl)) (fun _ _ _ h => h) (Or.inl ⟨by rfl, ?_⟩) ?_ ?_
    rotate_left
    · intro w'
      go_simp
      with_reducible rfl
    rotate_left
    · simp only [Act.put, List.setIfInBounds_toArray, List.set_cons_zero, List.set_cons_succ, i64_w, i32_w]
      rfl
    refine take_ (i := 1) (N := some 42) (v := ?_) (a' := ?_) #[true, true, true, false, true, false, true, false, true, false, true, false, true, false, true, false, false, false] rfl rfl (take_ofW HT_.out HW_.out (by kernel_rfl)) (fun _ _ _ h => h) (Or.inl ⟨by rfl, ?_⟩) hHeld ?_ ?_
    rotate_left
    · rintro w' ⟨s0, s1⟩
      go_simp
      with_reducible rfl
    rotate_left
    · simp only [Act.put, List.setIfInBounds_toArray, List.set_cons_zero, List.set_cons_succ, i64_w, i32_w]
      rfl
    refine take_ (i := 9) (N := some 50) (v := ?_) (a' := ?_) #[true, true, true, false, true, false, true, false, true, true, true, false, true, false, true, false, false, false] rfl rfl (take_ofW HT_.out HW_.out (by kernel_rfl)) (fun _ _ _ h => h) (Or.inl ⟨by rfl, ?_⟩) hHeld ?_ ?_
    rotate_left
    · rintro w' ⟨s0, s1⟩
      go_simp
      with_reducible rfl
    rotate_left
    · simp only [Act.put, List.setIfInBounds_toArray, List.set_cons_zero, List.set_cons_succ, i64_w, i32_w]
      rfl
    refine pure_ (i := 3) (N := some 44) (v := ?_) (a' := ?_) #[true, true, true, true, true, false, true, false, true, true, true, false, true, false, true, false, false, false] rfl rfl (any_of HT_.out (by kernel_rfl)) (fun _ _ _ h => h) (Or.inl ⟨by rfl, ?_⟩) ?_ ?_
    rotate_left
    · intro w'
      go_simp
      with_reducible rfl
    rotate_left
    · simp only [Act.put, List.setIfInBounds_toArray, List.set_cons_zero, List.set_cons_succ, i64_w, i32_w]
      rfl
    refine pure_ (i := 5) (N := some 46) (v := ?_) (a' := ?_) #[true, true, true, true, true, true, true, false, true, true, true, false, true, false, true, false, false, false] rfl rfl (any_of HT_.out (by kernel_rfl)) (fun _ _ _ h => h) (Or.inl ⟨by rfl, ?_⟩) ?_ ?_
    rotate_left
    · intro w'
      go_simp
      with_reducible rfl
    rotate_left
    · simp only [Act.put, List.setIfInBounds_toArray, List.set_cons_zero, List.set_cons_succ, i64_w, i32_w]
      rfl
    refine pure_ (i := 7) (N := some 48) (v := ?_) (a' := ?_) #[true, true, true, true, true, true, true, true, true, true, true, false, true, false, true, false, false, false] rfl rfl (any_of HT_.out (by kernel_rfl)) (fun _ _ _ h => h) (Or.inl ⟨by rfl, ?_⟩) ?_ ?_
    rotate_left
    · intro w'
      go_simp
      with_reducible rfl
    rotate_left
    · simp only [Act.put, List.setIfInBounds_toArray, List.set_cons_zero, List.set_cons_succ, i64_w, i32_w]
      rfl
    refine pure_ (i := 11) (N := some 52) (v := ?_) (a' := ?_) #[true, true, true, true, true, true, true, true, true, true, true, true, true, false, true, false, false, false] rfl rfl (any_of HT_.out (by kernel_rfl)) (fun _ _ _ h => h) (Or.inl ⟨by rfl, ?_⟩) ?_ ?_
    rotate_left
    · intro w'
      go_simp
      with_reducible rfl
    rotate_left
    · simp only [Act.put, List.setIfInBounds_toArray, List.set_cons_zero, List.set_cons_succ, i64_w, i32_w]
      rfl
    refine pure_ (i := 13) (N := some 54) (v := ?_) (a' := ?_) #[true, true, true, true, true, true, true, true, true, true, true, true, true, true, true, false, false, false] rfl rfl (any_of HT_.out (by kernel_rfl)) (fun _ _ _ h => h) (Or.inl ⟨by rfl, ?_⟩) ?_ ?_
    rotate_left
    · intro w'
      go_simp
      with_reducible rfl
    rotate_left
    · simp only [Act.put, List.setIfInBounds_toArray, List.set_cons_zero, List.set_cons_succ, i64_w, i32_w]
      rfl
    refine pure_ (i := 15) (N := some 56) (v := ?_) (a' := ?_) #[true, true, true, true, true, true, true, true, true, true, true, true, true, true, true, true, false, false] rfl rfl (any_of HT_.out (by kernel_rfl)) (fun _ _ _ h => h) (Or.inl ⟨by rfl, ?_⟩) ?_ ?_
    rotate_left
    · intro w'
      go_simp
      with_reducible rfl
    rotate_left
    · simp only [Act.put, List.setIfInBounds_toArray, List.set_cons_zero, List.set_cons_succ, i64_w, i32_w]
      rfl
    refine pure_ (i := 16) (N := some 8) (v := ?_) (a' := ?_) #[true, true, true, true, true, true, true, true, true, true, true, true, true, true, true, true, true, false] rfl rfl (any_of HT_.out (by kernel_rfl)) (fun _ _ _ h => h) (Or.inl ⟨by rfl, ?_⟩) ?_ ?_
    rotate_left
    · intro w'
      go_simp
      with_reducible rfl
    rotate_left
    · simp only [Act.put, List.setIfInBounds_toArray, List.set_cons_zero, List.set_cons_succ, i64_w, i32_w]
      rfl
    refine pure_ (i := 17) (N := some 9) (v := ?_) (a' := ?_) #[true, true, true, true, true, true, true, true, true, true, true, true, true, true, true, true, true, true] rfl rfl (any_of HT_.out (by kernel_rfl)) (fun _ _ _ h => h) (Or.inl ⟨by rfl, ?_⟩) ?_ ?_
    rotate_left
    · intro w'
      go_simp
      with_reducible rfl
    rotate_left
    · simp only [Act.put, List.setIfInBounds_toArray, List.set_cons_zero, List.set_cons_succ, i64_w, i32_w]
      rfl
    refine done_ (done_of HT_.out (by kernel_rfl)) ?_
    obtain ⟨i, hi⟩ : ∃ i, (wrap64 (t0.tmod ↑l.length + ↑l.length)).tmod ↑l.length = i := ⟨_, rfl⟩
    obtain ⟨j, hj⟩ : ∃ j, (wrap64 (t1.tmod ↑l.length + ↑l.length)).tmod ↑l.length = j := ⟨_, rfl⟩
    rw [hi, hj]
    have i0 : 0 ≤ i ∧ i < (l.length : Int) := by rw [← hi]; exact turn_bound t0 H3.out HS1.out
    have HI := Aside0.mk i0
    have HJ : Aside0 (0 ≤ j ∧ j < (l.length : Int)) := ⟨by rw [← hj]; exact turn_bound t1 H3.out HS1.out⟩
    obtain ⟨x, hx⟩ : ∃ x, rd_T54 l i = x := ⟨_, rfl⟩
    obtain ⟨y, hy⟩ : ∃ y, rd_T54 l j = y := ⟨_, rfl⟩
    have HXE := Aside0.mk hx
    have HYE := Aside0.mk hy
    clear hi hj hHeld HT_ HW_ hx hy
    obtain ⟨hc5, _⟩ := bcell HB.out
    have p0 := (hc5 _ 0 hz).trans k0
    have p1 := (hc5 _ 1 hz).trans k1
    have p2 := (hc5 _ 2 hz).trans k2
    have p3 := (hc5 _ 3 hz).trans k3
    clear hc5
    go_wp2_with (go_at_call 18; refine (copy_walkN a0 a1 a2 A c l _ (Kd.C_below HR.out HB.out) (by have := HS1.out; omega) (fun r hr => by have := HS3.out r hr; omega)).mono ?_; rintro e w5 ⟨B, cb, rfl, hcb, hN, hb⟩; obtain ⟨gB, cb', ev, hg1, hg2, _⟩ := Kd.N_form hN (by have := H3.out; omega); injection ev with e1 _ e3; subst e1; subst e3; obtain ⟨I1, d1, I3, d3_, I4, d4, hcx⟩ := N_cells hN i HI.out.1 HI.out.2; rw [HXE.out] at hcx; have HCX := Aside0.mk hcx; have i0' : w5.cell? ⟨gB, i.toNat * 5, none⟩ = _ := hcx 0 _ rfl; have i1' := hcx 1 _ rfl; have i2' := hcx 2 _ rfl; have i3' := hcx 3 _ rfl; have i4' := hcx 4 _ rfl; have HN := Aside0.mk hN; have HCB := Aside0.mk hcb; have HB5 := Aside0.mk hb; have HG1 := Aside0.mk hg1; clear hcb hN hb hg1 p0 p1 p2 p3 hcx)
    obtain ⟨bm, hbm⟩ : ∃ b, w5.heap.size = b := ⟨_, rfl⟩
    obtain ⟨V6, hV6⟩ : ∃ V, (w5.alloc (Obj.cells #[.int .i64 a0, .int .i64 a1, .int .i64 a2, .slice (some ⟨gB, 0, none⟩) l.length cb] 24)).alloc (Obj.cells #[.int .i64 x.f0, .slice I1 x.f1.length d1, .int .i64 x.f2, .slice I3 x.f3.length d3_, .slice I4 x.f4.length d4] 54) = V := ⟨_, rfl⟩
    have hb56 : Below w5.heap.size w5 V6 := by rw [← hV6]; exact ((Below.refl _ _).alloc (Nat.le_refl _) _).alloc (by simp) _
    have hm6 : V6.heap[bm]? = some (.cells #[.int .i64 a0, .int .i64 a1, .int .i64 a2, .slice (some ⟨gB, 0, none⟩) l.length cb] 24 (0, 0)) := by
      rw [← hV6, ← hbm, heap_alloc_old (h := by simp)]; exact heap_alloc_new _ _
    have hr6 : V6.heap[bm + 1]? = some (.cells #[.int .i64 x.f0, .slice I1 x.f1.length d1, .int .i64 x.f2, .slice I3 x.f3.length d3_, .slice I4 x.f4.length d4] 54 (0, 0)) := by
      rw [← hV6, ← hbm]; exact alloc2_new _ _ _
    have HGW : Aside0 (W.heap.size ≤ gB) := ⟨Nat.le_trans HB.out.size HG1.out⟩
    have HGB : Aside0 (gB < bm) := ⟨by rw [← hbm]; exact hg2⟩
    rw [hV6, hbm]
    have HN6 := Aside0.mk (Kd.N_below HN.out hb56)
    have HCX6 : Aside0 (∀ t u, [Value.int .i64 x.f0, .slice I1 x.f1.length d1, .int .i64 x.f2, .slice I3 x.f3.length d3_, .slice I4 x.f4.length d4][t]? = some u → V6.cell? ⟨gB, i.toNat * 5 + t, none⟩ = some u) := ⟨fun t u h => pw_cell_below hb56 (HCX.out t u h)⟩
    obtain ⟨J1, f1, J3, f3, J4, f4, hcy⟩ := N_cells HN6.out j HJ.out.1 HJ.out.2
    rw [HYE.out] at hcy
    have j0' : V6.cell? ⟨gB, j.toNat * 5, none⟩ = _ := hcy 0 _ rfl
    have j1' := hcy 1 _ rfl
    have j2' := hcy 2 _ rfl
    have j3' := hcy 3 _ rfl
    have j4' := hcy 4 _ rfl
    have HCY6 := Aside0.mk hcy
    have m3 := (run_cells4 hm6).2.2.2
    have HM6 := Aside0.mk hm6
    have HR6 := Aside0.mk hr6
    have HB6 : Aside0 (Below W.heap.size W V6) := ⟨below_step HB.out (below_step HB5.out hb56)⟩
    have jj := HJ.out
    clear hV6 hbm hb56 hm6 hr6 hg2 hcy i0' i1' i2' i3' i4' HN HCX HB5 HG1 HB
    refine start_ (n := 10) (S := fun w' => w'.cell? ⟨bm, 3, none⟩ = some (.slice (some ⟨gB, 0, none⟩) l.length cb) ∧ w'.cell? ⟨gB, j.toNat * 5, none⟩ = some (.int .i64 y.f0) ∧ w'.cell? ⟨gB, j.toNat * 5 + 1, none⟩ = some (.slice J1 y.f1.length f1) ∧ w'.cell? ⟨gB, j.toNat * 5 + 2, none⟩ = some (.int .i64 y.f2) ∧ w'.cell? ⟨gB, j.toNat * 5 + 3, none⟩ = some (.slice J3 y.f3.length f3) ∧ w'.cell? ⟨gB, j.toNat * 5 + 4, none⟩ = some (.slice J4 y.f4.length f4)) (ds := [9]) #[false, false, false, false, false, false, false, false, false, false] (by kernel_rfl) rfl rfl ⟨m3, j0', j1', j2', j3', j4'⟩ (fun hHeld => ?_); refine with_tabW regO7.tab regO7.bits (fun HT_ HW_ => ?_)
    have HB7 := Aside0.mk (below_drew (Below.refl V6.heap.size V6))
    clear m3 j0' j1' j2' j3' j4'
    generalize V6.drew = X7 at HB7 hHeld ⊢
    obtain ⟨q1, q2, q3, q4, q5⟩ := N_swap (Kd.N_below HN6.out HB7.out) i j HI.out.1 HI.out.2 HJ.out.1 HJ.out.2 (ci := [.int .i64 x.f0, .slice I1 x.f1.length d1, .int .i64 x.f2, .slice I3 x.f3.length d3_, .slice I4 x.f4.length d4]) (cj := [.int .i64 y.f0, .slice J1 y.f1.length f1, .int .i64 y.f2, .slice J3 y.f3.length f3, .slice J4 y.f4.length f4]) (fun t u h => pw_cell_below HB7.out (HCX6.out t u h)) rfl (fun t u h => pw_cell_below HB7.out (HCY6.out t u h)) rfl
    obtain ⟨V7, hV7⟩ : ∃ V, X7.setCells gB (i.toNat * 5) [.int .i64 y.f0, .slice J1 y.f1.length f1, .int .i64 y.f2, .slice J3 y.f3.length f3, .slice J4 y.f4.length f4] = V := ⟨_, rfl⟩
    rw [hV7] at q1 q2 q3 q4 q5
    have HRUN7 := Aside0.mk q1
    have HG7 := Aside0.mk q2
    have HN7 := Aside0.mk q3
    have HG8 := Aside0.mk q4
    have HN8 := Aside0.mk q5
    clear q1 q2 q3 q4 q5 hV7
    refine pure_ (i := 0) (N := some 65) (v := ?_) (a' := ?_) #[true, false, false, false, false, false, false, false, false, false] rfl rfl (any_of HT_.out (by kernel_rfl)) (fun _ _ _ h => h) (Or.inl ⟨by rfl, ?_⟩) ?_ ?_
    rotate_left
    · intro w'
      go_simp
      with_reducible rfl
    rotate_left
    · simp only [Act.put, List.setIfInBounds_toArray, List.set_cons_zero, List.set_cons_succ, i64_w, i32_w]
      rfl
    refine pure_ (i := 2) (N := some 67) (v := ?_) (a' := ?_) #[true, false, true, false, false, false, false, false, false, false] rfl rfl (any_of HT_.out (by kernel_rfl)) (fun _ _ _ h => h) (Or.inl ⟨by rfl, ?_⟩) ?_ ?_
    rotate_left
    · intro w'
      go_simp
      with_reducible rfl
    rotate_left
    · simp only [Act.put, List.setIfInBounds_toArray, List.set_cons_zero, List.set_cons_succ, i64_w, i32_w]
      rfl
    refine pure_ (i := 3) (N := some 68) (v := ?_) (a' := ?_) #[true, false, true, true, false, false, false, false, false, false] rfl rfl (any_of HT_.out (by kernel_rfl)) (fun _ _ _ h => h) (Or.inl ⟨by rfl, ?_⟩) ?_ ?_
    rotate_left
    · intro w'
      go_simp
      with_reducible rfl
    rotate_left
    · simp only [Act.put, List.setIfInBounds_toArray, List.set_cons_zero, List.set_cons_succ, i64_w, i32_w]
      rfl
    refine pure_ (i := 5) (N := some 70) (v := ?_) (a' := ?_) #[true, false, true, true, false, true, false, false, false, false] rfl rfl (any_of HT_.out (by kernel_rfl)) (fun _ _ _ h => h) (Or.inl ⟨by rfl, ?_⟩) ?_ ?_
    rotate_left
    · intro w'
      go_simp
      with_reducible rfl
    rotate_left
    · simp only [Act.put, List.setIfInBounds_toArray, List.set_cons_zero, List.set_cons_succ, i64_w, i32_w]
      rfl
    refine take_ (i := 1) (N := some 66) (v := ?_) (a' := ?_) #[true, true, true, true, false, true, false, false, false, false] rfl rfl (take_ofW HT_.out HW_.out (by kernel_rfl)) (fun _ _ _ h => h) (Or.inl ⟨by rfl, ?_⟩) hHeld ?_ ?_
    rotate_left
    · rintro w' ⟨s0, s1, s2, s3, s4, s5⟩
      go_simp
      with_reducible rfl
    rotate_left
    · simp only [Act.put, List.setIfInBounds_toArray, List.set_cons_zero, List.set_cons_succ, i64_w, i32_w]
      rfl
    refine take_ (i := 4) (N := some 69) (v := ?_) (a' := ?_) #[true, true, true, true, true, true, false, false, false, false] rfl rfl (take_ofW HT_.out HW_.out (by kernel_rfl)) (fun _ _ _ h => h) (Or.inl ⟨by rfl, ?_⟩) hHeld ?_ ?_
    rotate_left
    · rintro w' ⟨s0, s1, s2, s3, s4, s5⟩
      go_simp
      with_reducible rfl
    rotate_left
    · simp only [Act.put, List.setIfInBounds_toArray, List.set_cons_zero, List.set_cons_succ, i64_w, i32_w]
      rfl
    refine pure_ (i := 6) (N := some 71) (v := ?_) (a' := ?_) #[true, true, true, true, true, true, true, false, false, false] rfl rfl (any_of HT_.out (by kernel_rfl)) (fun _ _ _ h => h) (Or.inl ⟨by rfl, ?_⟩) ?_ ?_
    rotate_left
    · intro w'
      go_simp
      with_reducible rfl
    rotate_left
    · simp only [Act.put, List.setIfInBounds_toArray, List.set_cons_zero, List.set_cons_succ, i64_w, i32_w]
      rfl
    refine take_ (i := 7) (N := some 72) (v := ?_) (a' := ?_) #[true, true, true, true, true, true, true, true, false, false] rfl rfl (take_ofW HT_.out HW_.out (by kernel_rfl)) (fun _ _ _ h => h) (Or.inl ⟨by rfl, ?_⟩) hHeld ?_ ?_
    rotate_left
    · rintro w' ⟨s0, s1, s2, s3, s4, s5⟩
      go_simp
      with_reducible rfl
    rotate_left
    · simp only [Act.put, List.setIfInBounds_toArray, List.set_cons_zero, List.set_cons_succ, i64_w, i32_w]
      rfl
    refine pure_ (i := 8) (N := some 73) (v := ?_) (a' := ?_) #[true, true, true, true, true, true, true, true, true, false] rfl rfl (any_of HT_.out (by kernel_rfl)) (fun _ _ _ h => h) (Or.inl ⟨by rfl, ?_⟩) ?_ ?_
    rotate_left
    · intro w'
      go_simp
      with_reducible rfl
    rotate_left
    · simp only [Act.put, List.setIfInBounds_toArray, List.set_cons_zero, List.set_cons_succ, i64_w, i32_w]
      rfl
    refine last_ (i := 9) (N := none) #[true, true, true, true, true, true, true, true, true, true] rfl rfl (one_of HT_.out (by kernel_rfl)) (by decide) (fun K hK => ?_)
    refine skip_ (w1 := V7) (by rfl) rfl (exec_store54 (p := .tmp 73) (x := .tmp 72) rfl rfl rfl HRUN7.out) ?_
    refine hK.out _ _ ?_
    clear hK K hHeld
    refine done_ (done_of HT_.out (by kernel_rfl)) ?_
    have zm6 : bm < V6.heap.size := (Array.getElem?_eq_some_iff.1 HM6.out).1
    have zr6 : bm + 1 < V6.heap.size := (Array.getElem?_eq_some_iff.1 HR6.out).1
    have hm7 : V7.heap[bm]? = _ := (HG7.out.block bm (Nat.lt_of_lt_of_le zm6 HB7.out.size) (fun e => by injection e with e; have := HGB.out; omega)).trans ((HB7.out.block bm zm6).trans HM6.out)
    have hr7 : V7.heap[bm + 1]? = _ := (HG7.out.block (bm + 1) (Nat.lt_of_lt_of_le zr6 HB7.out.size) (fun e => by injection e with e; have := HGB.out; omega)).trans ((HB7.out.block (bm + 1) zr6).trans HR6.out)
    obtain ⟨K1, e1, K3, e3, K4, e4, hcz⟩ := N_cells HN7.out j HJ.out.1 HJ.out.2
    generalize rd_T54 (l.set i.toNat (l.getD j.toNat z54)) j = z at hcz
    have j0' : V7.cell? ⟨gB, j.toNat * 5, none⟩ = _ := hcz 0 _ rfl
    have j1' := hcz 1 _ rfl
    have j2' := hcz 2 _ rfl
    have j3' := hcz 3 _ rfl
    have j4' := hcz 4 _ rfl
    obtain ⟨_, _, ev, _, _, cellsB, hcB⟩ := Kd.N_form HN7.out (by rw [List.length_set]; have := H3.out; omega)
    injection ev with ev1 ev2 ev3
    clear ev2 ev3
    injection ev1 with ev1
    injection ev1 with ev1
    subst ev1
    have f0' := run_frozen hcB (j.toNat * 5)
    have f1' := run_frozen hcB (j.toNat * 5 + 1)
    have f2' := run_frozen hcB (j.toNat * 5 + 2)
    have f3' := run_frozen hcB (j.toNat * 5 + 3)
    have f4' := run_frozen hcB (j.toNat * 5 + 4)
    have m3 := (run_cells4 hm7).2.2.2
    obtain ⟨r0, r1, r2, r3, r4⟩ := tape_cells5 hr7
    have HM7 := Aside0.mk hm7
    clear hm7 hr7 hcz hcB zm6 zr6
    go_wp2_with fail
    obtain ⟨V8, hV8⟩ : ∃ V, V7.setCells gB (j.toNat * 5) [.int .i64 x.f0, .slice I1 x.f1.length d1, .int .i64 x.f2, .slice I3 x.f3.length d3_, .slice I4 x.f4.length d4] = V := ⟨_, rfl⟩
    have hV8' : ((((V7.setCell ⟨gB, j.toNat * 5, none⟩ (.int .i64 x.f0)).setCell ⟨gB, j.toNat * 5 + 1, none⟩ (.slice I1 x.f1.length d1)).setCell ⟨gB, j.toNat * 5 + 2, none⟩ (.int .i64 x.f2)).setCell ⟨gB, j.toNat * 5 + 3, none⟩ (.slice I3 x.f3.length d3_)).setCell ⟨gB, j.toNat * 5 + 4, none⟩ (.slice I4 x.f4.length d4) = V8 := hV8
    rw [hV8']
    rw [hV8] at HG8 HN8
    clear hV8 hV8' j0' j1' j2' j3' j4' f0' f1' f2' f3' f4' m3 r0 r1 r2 r3 r4 jj
    obtain ⟨lp, hlp⟩ : ∃ lp, swapL l i.toNat j.toNat = lp := ⟨_, rfl⟩
    have hpm : lp.Perm l := by rw [← hlp]; exact swapL_perm (by have := HI.out; omega) (by have := HJ.out; omega)
    have hll : lp.length = l.length := hpm.length_eq
    rw [hlp] at HN8
    have hn8 := HN8.out
    rw [← hll] at hn8
    have HC := Aside0.mk (Kd.N_reads' hn8).2.2
    have hcb8 := HCB.out
    rw [← hll] at hcb8
    have hm8 : V8.heap[bm]? = _ := (HG8.out.block bm (Array.getElem?_eq_some_iff.1 HM7.out).1 (fun e => by injection e with e; have := HGB.out; omega)).trans HM7.out
    rw [← hll] at hm8
    have HM := Aside0.mk hm8
    have hs7 : W.heap.size ≤ X7.heap.size := Nat.le_trans HB6.out.size HB7.out.size
    have HB : Aside0 (Below W.heap.size W V8) := ⟨((below_step HB6.out HB7.out).trans (grown_below HG7.out HGW.out hs7)).trans (grown_below HG8.out HGW.out (Nat.le_trans hs7 HG7.out.size))⟩
    obtain ⟨q, hq⟩ : ∃ q, runQ a0 a1 a2 l inp most = q := ⟨_, rfl⟩
    obtain ⟨sq, hsq⟩ : ∃ q, spaceQ a0 a1 a2 l inp most = q := ⟨_, rfl⟩
    have hqp : runQ a0 a1 a2 lp inp most = q := (runQ_perm hpm inp most).trans hq
    have hsqp : spaceQ a0 a1 a2 lp inp most = sq := (spaceQ_perm hpm inp most).trans hsq
    have HRUNL : Aside0 (∀ (w : World) B cb D cd, Kd.C k54 w B l.length l → Kd.C (Kd.int .i64) w D inp.length inp → inp.length ≤ cd → Calls Try.prog 19 #[.agg #[.int .i64 a0, .int .i64 a1, .int .i64 a2, .slice B l.length cb], .slice D inp.length cd, .int .i64 most] w (RunAnsF w q)) := ⟨fun w B cb D cd h1 h2 h3 => by rw [← hq]; exact Run_walkF a0 a1 a2 B cb l D cd inp most w h1 h2 h3⟩
    have HRUNP : Aside0 (∀ (w : World) B cb D cd, Kd.C k54 w B lp.length lp → Kd.C (Kd.int .i64) w D inp.length inp → inp.length ≤ cd → Calls Try.prog 19 #[.agg #[.int .i64 a0, .int .i64 a1, .int .i64 a2, .slice B lp.length cb], .slice D inp.length cd, .int .i64 most] w (RunAnsF w q)) := ⟨fun w B cb D cd h1 h2 h3 => by rw [← hqp]; exact Run_walkF a0 a1 a2 B cb lp D cd inp most w h1 h2 h3⟩
    have HSPL : Aside0 (∀ (w : World) B cb D cd, Kd.C k54 w B l.length l → Kd.C (Kd.int .i64) w D inp.length inp → inp.length ≤ cd → Calls Try.prog 21 #[.agg #[.int .i64 a0, .int .i64 a1, .int .i64 a2, .slice B l.length cb], .slice D inp.length cd, .int .i64 most] w (SpaceAns w sq)) := ⟨fun w B cb D cd h1 h2 h3 => by rw [← hsq]; exact Space_walk a0 a1 a2 B cb l D cd inp most w h1 h2 h3⟩
    have HSPP : Aside0 (∀ (w : World) B cb D cd, Kd.C k54 w B lp.length lp → Kd.C (Kd.int .i64) w D inp.length inp → inp.length ≤ cd → Calls Try.prog 21 #[.agg #[.int .i64 a0, .int .i64 a1, .int .i64 a2, .slice B lp.length cb], .slice D inp.length cd, .int .i64 most] w (SpaceAns w sq)) := ⟨fun w B cb D cd h1 h2 h3 => by rw [← hsqp]; exact Space_walk a0 a1 a2 B cb lp D cd inp most w h1 h2 h3⟩
    have HPM := Aside0.mk hpm
    have HLP := Aside0.mk hll
    have HCB8 := Aside0.mk hcb8
    clear hlp hpm hll hn8 hcb8 hm8 hs7 hq hsq hqp hsqp HN8 HN7 HM7 HG7 HG8 HB6 HB7 HRUN7 HM6 HR6 HN6 HCX6 HCY6 HXE HYE HGW HGB HCB
    obtain ⟨hcc9, _⟩ := bcell HB.out
    obtain ⟨n0, n1, n2, n3⟩ := run_cells4 HM.out
    refine start_ (n := 17) (S := fun w' => w'.cell? ⟨w.heap.size, 0, none⟩ = some (.int .i64 a0) ∧ w'.cell? ⟨w.heap.size, 1, none⟩ = some (.int .i64 a1) ∧ w'.cell? ⟨w.heap.size, 2, none⟩ = some (.int .i64 a2) ∧ w'.cell? ⟨w.heap.size, 3, none⟩ = some (.slice A l.length c) ∧ w'.cell? ⟨w.heap.size, 4, none⟩ = some (.slice A5 inp.length c5) ∧ w'.cell? ⟨bm, 0, none⟩ = some (.int .i64 a0) ∧ w'.cell? ⟨bm, 1, none⟩ = some (.int .i64 a1) ∧ w'.cell? ⟨bm, 2, none⟩ = some (.int .i64 a2) ∧ w'.cell? ⟨bm, 3, none⟩ = some (.slice (some ⟨gB, 0, none⟩) lp.length cb)) (ds := [14]) #[false, false, false, false, false, false, false, false, false, false, false, false, false, false, false, false, false] (by kernel_rfl) rfl rfl ⟨(hcc9 _ 0 hz).trans k0, (hcc9 _ 1 hz).trans k1, (hcc9 _ 2 hz).trans k2, (hcc9 _ 3 hz).trans k3, (hcc9 _ 4 hz).trans k4, n0, n1, n2, n3⟩ (fun hHeld => ?_); refine with_tabW regO9.tab regO9.bits (fun HT_ HW_ => ?_)
    clear hcc9 n0 n1 n2 n3
    have HBD := Aside0.mk (below_drew1 HB.out)
    have HMD := Aside0.mk (heap_drew HM.out)
    have HCD := Aside0.mk (Kd.C_below HC.out (below_drew (Below.refl _ _)))
    clear HB HM HC
    have HB := HBD
    have HM := HMD
    have HC := HCD
    clear HBD HMD HCD
    generalize V8.drew = X9 at HB HM HC hHeld ⊢
    refine pure_ (i := 0) (N := some 80) (v := ?_) (a' := ?_) #[true, false, false, false, false, false, false, false, false, false, false, false, false, false, false, false, false] rfl rfl (any_of HT_.out (by kernel_rfl)) (fun _ _ _ h => h) (Or.inl ⟨by rfl, ?_⟩) ?_ ?_
    rotate_left
    · intro w'
      go_simp
      with_reducible rfl
    rotate_left
    · simp only [Act.put, List.setIfInBounds_toArray, List.set_cons_zero, List.set_cons_succ, i64_w, i32_w]
      rfl
    refine pure_ (i := 4) (N := some 84) (v := ?_) (a' := ?_) #[true, false, false, false, true, false, false, false, false, false, false, false, false, false, false, false, false] rfl rfl (any_of HT_.out (by kernel_rfl)) (fun _ _ _ h => h) (Or.inl ⟨by rfl, ?_⟩) ?_ ?_
    rotate_left
    · intro w'
      go_simp
      with_reducible rfl
    rotate_left
    · simp only [Act.put, List.setIfInBounds_toArray, List.set_cons_zero, List.set_cons_succ, i64_w, i32_w]
      rfl
    refine pure_ (i := 7) (N := some 87) (v := ?_) (a' := ?_) #[true, false, false, false, true, false, false, true, false, false, false, false, false, false, false, false, false] rfl rfl (any_of HT_.out (by kernel_rfl)) (fun _ _ _ h => h) (Or.inl ⟨by rfl, ?_⟩) ?_ ?_
    rotate_left
    · intro w'
      go_simp
      with_reducible rfl
    rotate_left
    · simp only [Act.put, List.setIfInBounds_toArray, List.set_cons_zero, List.set_cons_succ, i64_w, i32_w]
      rfl
    refine take_ (i := 1) (N := some 81) (v := ?_) (a' := ?_) #[true, true, false, false, true, false, false, true, false, false, false, false, false, false, false, false, false] rfl rfl (take_ofW HT_.out HW_.out (by kernel_rfl)) (fun _ _ _ h => h) (Or.inl ⟨by rfl, ?_⟩) hHeld ?_ ?_
    rotate_left
    · rintro w' ⟨s0, s1, s2, s3, s4, s5, s6, s7, s8⟩
      go_simp
      with_reducible rfl
    rotate_left
    · simp only [Act.put, List.setIfInBounds_toArray, List.set_cons_zero, List.set_cons_succ, i64_w, i32_w]
      rfl
    refine take_ (i := 5) (N := some 85) (v := ?_) (a' := ?_) #[true, true, false, false, true, true, false, true, false, false, false, false, false, false, false, false, false] rfl rfl (take_ofW HT_.out HW_.out (by kernel_rfl)) (fun _ _ _ h => h) (Or.inl ⟨by rfl, ?_⟩) hHeld ?_ ?_
    rotate_left
    · rintro w' ⟨s0, s1, s2, s3, s4, s5, s6, s7, s8⟩
      go_simp
      with_reducible rfl
    rotate_left
    · simp only [Act.put, List.setIfInBounds_toArray, List.set_cons_zero, List.set_cons_succ, i64_w, i32_w]
      rfl
    refine join_ (σ := Value × Value × Value × (Option Addr × Nat) × (Option Addr × Nat) × Nat) 3 #[true, true, true, true, true, true, true, true, true, true, true, true, true, true, false, false, false] (fun s_ => [(82, s_.1), (83, s_.2.1), (86, s_.2.2.1), (88, runV5 q s_.2.2.2.1 s_.2.2.2.2.1), (12, .pointer (some ⟨s_.2.2.2.2.2, 0, none⟩)), (79, runV5 q s_.2.2.2.1 s_.2.2.2.2.1), (89, runS5 q s_.2.2.2.1 s_.2.2.2.2.1), (90, .int .i64 q.2.1), (91, .int .i64 q.2.2)]) (fun s_ w' => Below X9.heap.size X9 w' ∧ w'.heap[s_.2.2.2.2.2]? = some (.cells #[.int .i64 0, .slice none 0 0, .slice none 0 0] 32 (0, 0)) ∧ X9.heap.size ≤ s_.2.2.2.2.2 ∧ Far q w' s_.2.2.2.2.2 (runS5 q s_.2.2.2.1 s_.2.2.2.2.1)) ?_ ?_
    rotate_left
    · intro hCont
      refine law_invG (nt := 152) (bits := regO9.bits_) (i2 := 2) (i3 := 3) (i6 := 6) (i8 := 8) (i13 := 13) (s2 := 82) (s3 := 83) (s6 := 86) (s8 := 88) (s13 := 12) ⟨by decide, by decide, by decide, by decide, by decide, by decide, by decide, by decide, by decide, by decide, by decide, by decide, by decide⟩ (a0 := a0) (a1 := a1) (a2 := a2) (rs := l) (inp := inp) (R := (RunR X9 q)) (p0 := false) (e0 := false) X9 (fun p b c_ d e h1 h1p h2 h3 h4 => by rw [ready_eq, HT_.out]; exact regO9.steps p b c_ d e h1 h1p h2 h3 h4) (o2 := _) (o3 := _) (o6 := _) (o8 := _) (o13 := _) rfl rfl rfl (fun _ => ⟨rfl, rfl, rfl, fun a_ w_ d_ x8_ x13_ hb_ hR_ => ⟨_, _, exec_alloc32 rfl, (Below.refl _ _).alloc (Nat.le_refl _) _, RunR_alloc hR_ hb_⟩⟩) (sM := 81) (sX := 85) (sN := 87) (F := 19) _ rfl (A := A) (A5 := A5) (c := c) (c5 := c5) (m := most) (fun _ => ⟨rfl, by decide, by decide, by decide, by decide, by decide, by decide, rfl, (Kd.C_below HR.out HB.out), rfl, rfl, rfl⟩) ⟨rfl, rfl, rfl⟩ ⟨rfl, rfl, rfl⟩ ⟨rfl, rfl, rfl⟩ Try.func19 (by kernel_rfl) rfl (by decide) (by decide) rfl rfl (Kd.C_below H5.out HB.out) (by have := HS1.out; omega) (fun r hr => by have := HS3.out r hr; omega) (by have := HS2.out; omega) (fun w_ B cb_ D cd e1_ x8_ x13_ hb_ hR_ q1 q2 q3 => (HRUNL.out w_ B cb_ D cd q1 q2 q3).mono (fun en w' h => RunR_call hR_ h)) RunR_keep (fun w' hb => ⟨pw_cell_below hb hHeld.1, pw_cell_below hb hHeld.2.1, pw_cell_below hb hHeld.2.2.1, pw_cell_below hb hHeld.2.2.2.1, pw_cell_below hb hHeld.2.2.2.2.1, pw_cell_below hb hHeld.2.2.2.2.2.1, pw_cell_below hb hHeld.2.2.2.2.2.2.1, pw_cell_below hb hHeld.2.2.2.2.2.2.2.1, pw_cell_below hb hHeld.2.2.2.2.2.2.2.2⟩) (by simp only [put5, Act.put, List.setIfInBounds_toArray, List.set_cons_zero, List.set_cons_succ]; rfl) trivial (fun h => by cases h) 7 5 rfl ?_ (fun h => ?_)
      · skip
        rintro x2 x3 x6 v x13 w4 hb4 ⟨⟨B1, d1⟩, ⟨B2, d2⟩, g, rfl, rfl, hg, hge, hsv⟩
        refine norm_ (a' := ?_) ?_ ?_
        rotate_left
        · simp only [put5, runV5, runS5, Act.put, List.setIfInBounds_toArray, List.set_cons_zero, List.set_cons_succ]
          rfl
        refine pure_ (i := 9) (N := some 79) (v := ?_) (a' := ?_) #[true, true, true, true, true, true, true, true, true, true, false, false, false, true, false, false, false] rfl rfl (any_of HT_.out (by kernel_rfl)) (fun _ _ _ h => h) (Or.inl ⟨by rfl, ?_⟩) ?_ ?_
        rotate_left
        · intro w'
          go_simp
          with_reducible rfl
        rotate_left
        · simp only [Act.put, List.setIfInBounds_toArray, List.set_cons_zero, List.set_cons_succ, i64_w, i32_w]
          rfl
        refine pure_ (i := 10) (N := some 89) (v := ?_) (a' := ?_) #[true, true, true, true, true, true, true, true, true, true, true, false, false, true, false, false, false] rfl rfl (any_of HT_.out (by kernel_rfl)) (fun _ _ _ h => h) (Or.inl ⟨by rfl, ?_⟩) ?_ ?_
        rotate_left
        · intro w'
          go_simp
          with_reducible rfl
        rotate_left
        · simp only [Act.put, List.setIfInBounds_toArray, List.set_cons_zero, List.set_cons_succ, i64_w, i32_w]
          rfl
        refine pure_ (i := 11) (N := some 90) (v := ?_) (a' := ?_) #[true, true, true, true, true, true, true, true, true, true, true, true, false, true, false, false, false] rfl rfl (any_of HT_.out (by kernel_rfl)) (fun _ _ _ h => h) (Or.inl ⟨by rfl, ?_⟩) ?_ ?_
        rotate_left
        · intro w'
          go_simp
          with_reducible rfl
        rotate_left
        · simp only [Act.put, List.setIfInBounds_toArray, List.set_cons_zero, List.set_cons_succ, i64_w, i32_w]
          rfl
        refine pure_ (i := 12) (N := some 91) (v := ?_) (a' := ?_) #[true, true, true, true, true, true, true, true, true, true, true, true, true, true, false, false, false] rfl rfl (any_of HT_.out (by kernel_rfl)) (fun _ _ _ h => h) (Or.inl ⟨by rfl, ?_⟩) ?_ ?_
        rotate_left
        · intro w'
          go_simp
          with_reducible rfl
        rotate_left
        · simp only [Act.put, List.setIfInBounds_toArray, List.set_cons_zero, List.set_cons_succ, i64_w, i32_w]
          rfl
        exact norm_ (by simp only [putAll, Act.put, List.setIfInBounds_toArray, List.set_cons_zero, List.set_cons_succ]; rfl) (hCont (x2, x3, x6, (B1, d1), (B2, d2), g) _ ⟨hb4, hg, hge, hsv⟩)
      · skip
        clear h
        rintro x2 x3 x6 v x13 w4 hb4 hR
        have hR2 := RunR_alloc hR hb4
        obtain ⟨⟨B1, d1⟩, ⟨B2, d2⟩, rfl, _⟩ := hR
        refine norm_ (a' := ?_) ?_ ?_
        rotate_left
        · simp only [put5, runV5, runS5, Act.put, List.setIfInBounds_toArray, List.set_cons_zero, List.set_cons_succ]
          rfl
        refine pure_ (i := 9) (N := some 79) (v := ?_) (a' := ?_) #[true, true, true, true, true, true, true, true, true, true, false, false, false, false, false, false, false] rfl rfl (any_of HT_.out (by kernel_rfl)) (fun _ _ _ h => h) (Or.inl ⟨by rfl, ?_⟩) ?_ ?_
        rotate_left
        · intro w'
          go_simp
          with_reducible rfl
        rotate_left
        · simp only [Act.put, List.setIfInBounds_toArray, List.set_cons_zero, List.set_cons_succ, i64_w, i32_w]
          rfl
        refine pure_ (i := 10) (N := some 89) (v := ?_) (a' := ?_) #[true, true, true, true, true, true, true, true, true, true, true, false, false, false, false, false, false] rfl rfl (any_of HT_.out (by kernel_rfl)) (fun _ _ _ h => h) (Or.inl ⟨by rfl, ?_⟩) ?_ ?_
        rotate_left
        · intro w'
          go_simp
          with_reducible rfl
        rotate_left
        · simp only [Act.put, List.setIfInBounds_toArray, List.set_cons_zero, List.set_cons_succ, i64_w, i32_w]
          rfl
        refine pure_ (i := 11) (N := some 90) (v := ?_) (a' := ?_) #[true, true, true, true, true, true, true, true, true, true, true, true, false, false, false, false, false] rfl rfl (any_of HT_.out (by kernel_rfl)) (fun _ _ _ h => h) (Or.inl ⟨by rfl, ?_⟩) ?_ ?_
        rotate_left
        · intro w'
          go_simp
          with_reducible rfl
        rotate_left
        · simp only [Act.put, List.setIfInBounds_toArray, List.set_cons_zero, List.set_cons_succ, i64_w, i32_w]
          rfl
        refine pure_ (i := 12) (N := some 91) (v := ?_) (a' := ?_) #[true, true, true, true, true, true, true, true, true, true, true, true, true, false, false, false, false] rfl rfl (any_of HT_.out (by kernel_rfl)) (fun _ _ _ h => h) (Or.inl ⟨by rfl, ?_⟩) ?_ ?_
        rotate_left
        · intro w'
          go_simp
          with_reducible rfl
        rotate_left
        · simp only [Act.put, List.setIfInBounds_toArray, List.set_cons_zero, List.set_cons_succ, i64_w, i32_w]
          rfl
        refine one_ (i := 13) (N := some 12) #[true, true, true, true, true, true, true, true, true, true, true, true, true, true, false, false, false] rfl rfl (one_of HT_.out (by kernel_rfl)) (by decide) (fun K hK => ?_)
        refine event_step (by rfl) (exec_alloc32 rfl) ?_
        have hb5 : Below X9.heap.size X9 (w4.alloc (.cells #[.int .i64 0, .slice none 0 0, .slice none 0 0] 32)) := hb4.alloc hb4.size _
        obtain ⟨⟨B1', d1'⟩, ⟨B2', d2'⟩, g', ex, ep, hg, hge, hsv⟩ := hR2
        obtain ⟨rfl, rfl, rfl, rfl⟩ := runV5_inj ex
        injection ep with ep
        injection ep with ep
        injection ep with ep
        subst ep
        refine hK.out _ _ ⟨pw_cell_below hb5 hHeld.1, pw_cell_below hb5 hHeld.2.1, pw_cell_below hb5 hHeld.2.2.1, pw_cell_below hb5 hHeld.2.2.2.1, pw_cell_below hb5 hHeld.2.2.2.2.1, pw_cell_below hb5 hHeld.2.2.2.2.2.1, pw_cell_below hb5 hHeld.2.2.2.2.2.2.1, pw_cell_below hb5 hHeld.2.2.2.2.2.2.2.1, pw_cell_below hb5 hHeld.2.2.2.2.2.2.2.2⟩ (fun hHeld2 => ?_)
        clear hK K
        exact norm_ (by simp only [putAll, Act.put, List.setIfInBounds_toArray, List.set_cons_zero, List.set_cons_succ]; rfl) (hCont (x2, x3, x6, (B1', d1'), (B2', d2'), w4.heap.size) _ ⟨hb5, hg, hge, hsv⟩)
    rintro ⟨x2, x3, x6, ⟨B1, d1⟩, ⟨B2, d2⟩, g9⟩ w4 ⟨hb4, hg, hge, hsv⟩
    have HB4 := Aside0.mk hb4
    have HGE : Aside0 (X9.heap.size ≤ g9) := ⟨hge⟩
    have HGG := Aside0.mk hg
    have HSV := Aside0.mk hsv
    clear hb4 hg hge hsv
    refine norm_ (a' := ?_) ?_ ?_
    rotate_left
    · simp only [put5, putAll, runV5, runS5, Act.put, List.setIfInBounds_toArray, List.set_cons_zero, List.set_cons_succ]
      rfl
    refine last_ (i := 14) (N := none) #[true, true, true, true, true, true, true, true, true, true, true, true, true, true, true, false, false] rfl rfl (one_of HT_.out (by kernel_rfl)) (by decide) (fun K hK => ?_)
    obtain ⟨y0, y1, y2⟩ := trio_cells HGG.out
    have z0 := run_frozen HGG.out 0
    have z1 := run_frozen HGG.out 1
    have z2 := run_frozen HGG.out 2
    refine skip_ (w1 := ?_) (by rfl) rfl ?_ ?_
    rotate_left
    · go_simp
      rfl
    refine hK.out _ _ ?_
    clear hK K
    clear y0 y1 y2 z0 z1 z2
    refine pure_ (i := 15) (N := some 13) (v := ?_) (a' := ?_) #[true, true, true, true, true, true, true, true, true, true, true, true, true, true, true, true, false] rfl rfl (any_of HT_.out (by kernel_rfl)) (fun _ _ _ h => h) (Or.inl ⟨by rfl, ?_⟩) ?_ ?_
    rotate_left
    · intro w'
      go_simp
      with_reducible rfl
    rotate_left
    · simp only [Act.put, List.setIfInBounds_toArray, List.set_cons_zero, List.set_cons_succ, i64_w, i32_w]
      rfl
    refine pure_ (i := 16) (N := some 14) (v := ?_) (a' := ?_) #[true, true, true, true, true, true, true, true, true, true, true, true, true, true, true, true, true] rfl rfl (any_of HT_.out (by kernel_rfl)) (fun _ _ _ h => h) (Or.inl ⟨by rfl, ?_⟩) ?_ ?_
    rotate_left
    · intro w'
      go_simp
      with_reducible rfl
    rotate_left
    · simp only [Act.put, List.setIfInBounds_toArray, List.set_cons_zero, List.set_cons_succ, i64_w, i32_w]
      rfl
    refine done_ (done_of HT_.out (by kernel_rfl)) ?_
    obtain ⟨V9, hV9⟩ : ∃ V, ((w4.setCell ⟨g9, 0, none⟩ (.int .i64 q.1.s)).setCell ⟨g9, 1, none⟩ (.slice B1 q.1.at_.length d1)).setCell ⟨g9, 2, none⟩ (.slice B2 q.1.tp.length d2) = V := ⟨_, rfl⟩
    have HBV : Aside0 (Below X9.heap.size X9 V9) := ⟨by rw [← hV9]; exact ((HB4.out.setCell (p := ⟨g9, 0, none⟩) HGE.out _).setCell (p := ⟨g9, 1, none⟩) HGE.out _).setCell (p := ⟨g9, 2, none⟩) HGE.out _⟩
    have HSC : Aside0 (SceneAt q V9 g9 (.slice B1 q.1.at_.length d1) (.slice B2 q.1.tp.length d2)) := ⟨by rw [← hV9]; exact ⟨set3 HGG.out _ _ _, HSV.out _ _ _ _ (Below.refl _ _)⟩⟩
    obtain ⟨pC, hpC⟩ : ∃ p, Value.slice B1 q.1.at_.length d1 = p := ⟨_, rfl⟩
    obtain ⟨rC, hrC⟩ : ∃ p, Value.slice B2 q.1.tp.length d2 = p := ⟨_, rfl⟩
    rw [hpC, hrC] at HSC
    try rw [hV9]
    try simp only [hpC, hrC]
    clear HB4 HGE HGG HSV hV9 hpC hrC
    have HB_ := Aside0.mk (below_step HB.out HBV.out)
    have HM_ := Aside0.mk (heap_below HM.out HBV.out)
    have HC_ := Aside0.mk (Kd.C_below HC.out HBV.out)
    clear HB HM HC
    have HB := HB_
    have HM := HM_
    have HC := HC_
    clear HB_ HM_ HC_ HBV hHeld HT_ HW_
    try go_wp2_with fail
    obtain ⟨hcc10, _⟩ := bcell HB.out
    obtain ⟨n0, n1, n2, n3⟩ := run_cells4 HM.out
    refine start_ (n := 16) (S := fun w' => w'.cell? ⟨w.heap.size, 0, none⟩ = some (.int .i64 a0) ∧ w'.cell? ⟨w.heap.size, 1, none⟩ = some (.int .i64 a1) ∧ w'.cell? ⟨w.heap.size, 2, none⟩ = some (.int .i64 a2) ∧ w'.cell? ⟨w.heap.size, 3, none⟩ = some (.slice A l.length c) ∧ w'.cell? ⟨w.heap.size, 4, none⟩ = some (.slice A5 inp.length c5) ∧ w'.cell? ⟨bm, 0, none⟩ = some (.int .i64 a0) ∧ w'.cell? ⟨bm, 1, none⟩ = some (.int .i64 a1) ∧ w'.cell? ⟨bm, 2, none⟩ = some (.int .i64 a2) ∧ w'.cell? ⟨bm, 3, none⟩ = some (.slice (some ⟨gB, 0, none⟩) lp.length cb)) (ds := [13]) #[false, false, false, false, false, false, false, false, false, false, false, false, false, false, false, false] (by kernel_rfl) rfl rfl ⟨(hcc10 _ 0 hz).trans k0, (hcc10 _ 1 hz).trans k1, (hcc10 _ 2 hz).trans k2, (hcc10 _ 3 hz).trans k3, (hcc10 _ 4 hz).trans k4, n0, n1, n2, n3⟩ (fun hHeld => ?_); refine with_tabW regO10.tab regO10.bits (fun HT_ HW_ => ?_)
    clear hcc10 n0 n1 n2 n3
    have HBD := Aside0.mk (below_drew1 HB.out)
    have HMD := Aside0.mk (heap_drew HM.out)
    have HCD := Aside0.mk (Kd.C_below HC.out (below_drew (Below.refl _ _)))
    have HDC := Aside0.mk (scene_drew HSC.out)
    clear HB HM HC HSC
    have HB := HBD
    have HM := HMD
    have HC := HCD
    have HSC := HDC
    clear HDC
    clear HBD HMD HCD
    generalize V9.drew = X10 at HB HM HC HSC hHeld ⊢
    refine pure_ (i := 3) (N := some 96) (v := ?_) (a' := ?_) #[false, false, false, true, false, false, false, false, false, false, false, false, false, false, false, false] rfl rfl (any_of HT_.out (by kernel_rfl)) (fun _ _ _ h => h) (Or.inl ⟨by rfl, ?_⟩) ?_ ?_
    rotate_left
    · intro w'
      go_simp
      with_reducible rfl
    rotate_left
    · simp only [Act.put, List.setIfInBounds_toArray, List.set_cons_zero, List.set_cons_succ, i64_w, i32_w]
      rfl
    refine pure_ (i := 6) (N := some 99) (v := ?_) (a' := ?_) #[false, false, false, true, false, false, true, false, false, false, false, false, false, false, false, false] rfl rfl (any_of HT_.out (by kernel_rfl)) (fun _ _ _ h => h) (Or.inl ⟨by rfl, ?_⟩) ?_ ?_
    rotate_left
    · intro w'
      go_simp
      with_reducible rfl
    rotate_left
    · simp only [Act.put, List.setIfInBounds_toArray, List.set_cons_zero, List.set_cons_succ, i64_w, i32_w]
      rfl
    refine take_ (i := 0) (N := some 93) (v := ?_) (a' := ?_) #[true, false, false, true, false, false, true, false, false, false, false, false, false, false, false, false] rfl rfl (take_ofW HT_.out HW_.out (by kernel_rfl)) (fun _ _ _ h => h) (Or.inl ⟨by rfl, ?_⟩) hHeld ?_ ?_
    rotate_left
    · rintro w' ⟨s0, s1, s2, s3, s4, s5, s6, s7, s8⟩
      go_simp
      with_reducible rfl
    rotate_left
    · simp only [Act.put, List.setIfInBounds_toArray, List.set_cons_zero, List.set_cons_succ, i64_w, i32_w]
      rfl
    refine take_ (i := 4) (N := some 97) (v := ?_) (a' := ?_) #[true, false, false, true, true, false, true, false, false, false, false, false, false, false, false, false] rfl rfl (take_ofW HT_.out HW_.out (by kernel_rfl)) (fun _ _ _ h => h) (Or.inl ⟨by rfl, ?_⟩) hHeld ?_ ?_
    rotate_left
    · rintro w' ⟨s0, s1, s2, s3, s4, s5, s6, s7, s8⟩
      go_simp
      with_reducible rfl
    rotate_left
    · simp only [Act.put, List.setIfInBounds_toArray, List.set_cons_zero, List.set_cons_succ, i64_w, i32_w]
      rfl
    refine join_ (σ := Value × Value × Value × (Option Addr × Nat) × (Option Addr × Nat) × Nat) 3 #[true, true, true, true, true, true, true, true, true, true, true, true, true, false, false, false] (fun s_ => [(94, s_.1), (95, s_.2.1), (98, s_.2.2.1), (100, runV5 q s_.2.2.2.1 s_.2.2.2.2.1), (15, .pointer (some ⟨s_.2.2.2.2.2, 0, none⟩)), (92, runV5 q s_.2.2.2.1 s_.2.2.2.2.1), (101, runS5 q s_.2.2.2.1 s_.2.2.2.2.1), (102, .int .i64 q.2.1), (103, .int .i64 q.2.2)]) (fun s_ w' => Below X10.heap.size X10 w' ∧ w'.heap[s_.2.2.2.2.2]? = some (.cells #[.int .i64 0, .slice none 0 0, .slice none 0 0] 32 (0, 0)) ∧ X10.heap.size ≤ s_.2.2.2.2.2 ∧ Far q w' s_.2.2.2.2.2 (runS5 q s_.2.2.2.1 s_.2.2.2.2.1)) ?_ ?_
    rotate_left
    · intro hCont
      refine law_invG (nt := 152) (bits := regO10.bits_) (i2 := 1) (i3 := 2) (i6 := 5) (i8 := 7) (i13 := 12) (s2 := 94) (s3 := 95) (s6 := 98) (s8 := 100) (s13 := 15) ⟨by decide, by decide, by decide, by decide, by decide, by decide, by decide, by decide, by decide, by decide, by decide, by decide, by decide⟩ (a0 := a0) (a1 := a1) (a2 := a2) (rs := lp) (inp := inp) (R := (RunR X10 q)) (p0 := false) (e0 := false) X10 (fun p b c_ d e h1 h1p h2 h3 h4 => by rw [ready_eq, HT_.out]; exact regO10.steps p b c_ d e h1 h1p h2 h3 h4) (o2 := _) (o3 := _) (o6 := _) (o8 := _) (o13 := _) rfl rfl rfl (fun _ => ⟨rfl, rfl, rfl, fun a_ w_ d_ x8_ x13_ hb_ hR_ => ⟨_, _, exec_alloc32 rfl, (Below.refl _ _).alloc (Nat.le_refl _) _, RunR_alloc hR_ hb_⟩⟩) (sM := 93) (sX := 97) (sN := 99) (F := 19) _ rfl (A := (some ⟨gB, 0, none⟩)) (A5 := A5) (c := cb) (c5 := c5) (m := most) (fun _ => ⟨rfl, by decide, by decide, by decide, by decide, by decide, by decide, rfl, HC.out, rfl, rfl, rfl⟩) ⟨rfl, rfl, rfl⟩ ⟨rfl, rfl, rfl⟩ ⟨rfl, rfl, rfl⟩ Try.func19 (by kernel_rfl) rfl (by decide) (by decide) rfl rfl (Kd.C_below H5.out HB.out) (by have := HS1.out; have := HLP.out; omega) (fun r hr => by have := HS3.out r (HPM.out.mem_iff.1 hr); omega) (by have := HS2.out; omega) (fun w_ B cb_ D cd e1_ x8_ x13_ hb_ hR_ q1 q2 q3 => (HRUNP.out w_ B cb_ D cd q1 q2 q3).mono (fun en w' h => RunR_call hR_ h)) RunR_keep (fun w' hb => ⟨pw_cell_below hb hHeld.1, pw_cell_below hb hHeld.2.1, pw_cell_below hb hHeld.2.2.1, pw_cell_below hb hHeld.2.2.2.1, pw_cell_below hb hHeld.2.2.2.2.1, pw_cell_below hb hHeld.2.2.2.2.2.1, pw_cell_below hb hHeld.2.2.2.2.2.2.1, pw_cell_below hb hHeld.2.2.2.2.2.2.2.1, pw_cell_below hb hHeld.2.2.2.2.2.2.2.2⟩) (by simp only [put5, Act.put, List.setIfInBounds_toArray, List.set_cons_zero, List.set_cons_succ]; rfl) trivial (fun h => by cases h) 7 5 rfl ?_ (fun h => ?_)
      · skip
        rintro x2 x3 x6 v x13 w4 hb4 ⟨⟨B1, d1⟩, ⟨B2, d2⟩, g, rfl, rfl, hg, hge, hsv⟩
        refine norm_ (a' := ?_) ?_ ?_
        rotate_left
        · simp only [put5, runV5, runS5, Act.put, List.setIfInBounds_toArray, List.set_cons_zero, List.set_cons_succ]
          rfl
        refine pure_ (i := 8) (N := some 92) (v := ?_) (a' := ?_) #[true, true, true, true, true, true, true, true, true, false, false, false, true, false, false, false] rfl rfl (any_of HT_.out (by kernel_rfl)) (fun _ _ _ h => h) (Or.inl ⟨by rfl, ?_⟩) ?_ ?_
        rotate_left
        · intro w'
          go_simp
          with_reducible rfl
        rotate_left
        · simp only [Act.put, List.setIfInBounds_toArray, List.set_cons_zero, List.set_cons_succ, i64_w, i32_w]
          rfl
        refine pure_ (i := 9) (N := some 101) (v := ?_) (a' := ?_) #[true, true, true, true, true, true, true, true, true, true, false, false, true, false, false, false] rfl rfl (any_of HT_.out (by kernel_rfl)) (fun _ _ _ h => h) (Or.inl ⟨by rfl, ?_⟩) ?_ ?_
        rotate_left
        · intro w'
          go_simp
          with_reducible rfl
        rotate_left
        · simp only [Act.put, List.setIfInBounds_toArray, List.set_cons_zero, List.set_cons_succ, i64_w, i32_w]
          rfl
        refine pure_ (i := 10) (N := some 102) (v := ?_) (a' := ?_) #[true, true, true, true, true, true, true, true, true, true, true, false, true, false, false, false] rfl rfl (any_of HT_.out (by kernel_rfl)) (fun _ _ _ h => h) (Or.inl ⟨by rfl, ?_⟩) ?_ ?_
        rotate_left
        · intro w'
          go_simp
          with_reducible rfl
        rotate_left
        · simp only [Act.put, List.setIfInBounds_toArray, List.set_cons_zero, List.set_cons_succ, i64_w, i32_w]
          rfl
        refine pure_ (i := 11) (N := some 103) (v := ?_) (a' := ?_) #[true, true, true, true, true, true, true, true, true, true, true, true, true, false, false, false] rfl rfl (any_of HT_.out (by kernel_rfl)) (fun _ _ _ h => h) (Or.inl ⟨by rfl, ?_⟩) ?_ ?_
        rotate_left
        · intro w'
          go_simp
          with_reducible rfl
        rotate_left
        · simp only [Act.put, List.setIfInBounds_toArray, List.set_cons_zero, List.set_cons_succ, i64_w, i32_w]
          rfl
        exact norm_ (by simp only [putAll, Act.put, List.setIfInBounds_toArray, List.set_cons_zero, List.set_cons_succ]; rfl) (hCont (x2, x3, x6, (B1, d1), (B2, d2), g) _ ⟨hb4, hg, hge, hsv⟩)
      · skip
        clear h
        rintro x2 x3 x6 v x13 w4 hb4 hR
        have hR2 := RunR_alloc hR hb4
        obtain ⟨⟨B1, d1⟩, ⟨B2, d2⟩, rfl, _⟩ := hR
        refine norm_ (a' := ?_) ?_ ?_
        rotate_left
        · simp only [put5, runV5, runS5, Act.put, List.setIfInBounds_toArray, List.set_cons_zero, List.set_cons_succ]
          rfl
        refine pure_ (i := 8) (N := some 92) (v := ?_) (a' := ?_) #[true, true, true, true, true, true, true, true, true, false, false, false, false, false, false, false] rfl rfl (any_of HT_.out (by kernel_rfl)) (fun _ _ _ h => h) (Or.inl ⟨by rfl, ?_⟩) ?_ ?_
        rotate_left
        · intro w'
          go_simp
          with_reducible rfl
        rotate_left
        · simp only [Act.put, List.setIfInBounds_toArray, List.set_cons_zero, List.set_cons_succ, i64_w, i32_w]
          rfl
        refine pure_ (i := 9) (N := some 101) (v := ?_) (a' := ?_) #[true, true, true, true, true, true, true, true, true, true, false, false, false, false, false, false] rfl rfl (any_of HT_.out (by kernel_rfl)) (fun _ _ _ h => h) (Or.inl ⟨by rfl, ?_⟩) ?_ ?_
        rotate_left
        · intro w'
          go_simp
          with_reducible rfl
        rotate_left
        · simp only [Act.put, List.setIfInBounds_toArray, List.set_cons_zero, List.set_cons_succ, i64_w, i32_w]
          rfl
        refine pure_ (i := 10) (N := some 102) (v := ?_) (a' := ?_) #[true, true, true, true, true, true, true, true, true, true, true, false, false, false, false, false] rfl rfl (any_of HT_.out (by kernel_rfl)) (fun _ _ _ h => h) (Or.inl ⟨by rfl, ?_⟩) ?_ ?_
        rotate_left
        · intro w'
          go_simp
          with_reducible rfl
        rotate_left
        · simp only [Act.put, List.setIfInBounds_toArray, List.set_cons_zero, List.set_cons_succ, i64_w, i32_w]
          rfl
        refine pure_ (i := 11) (N := some 103) (v := ?_) (a' := ?_) #[true, true, true, true, true, true, true, true, true, true, true, true, false, false, false, false] rfl rfl (any_of HT_.out (by kernel_rfl)) (fun _ _ _ h => h) (Or.inl ⟨by rfl, ?_⟩) ?_ ?_
        rotate_left
        · intro w'
          go_simp
          with_reducible rfl
        rotate_left
        · simp only [Act.put, List.setIfInBounds_toArray, List.set_cons_zero, List.set_cons_succ, i64_w, i32_w]
          rfl
        refine one_ (i := 12) (N := some 15) #[true, true, true, true, true, true, true, true, true, true, true, true, true, false, false, false] rfl rfl (one_of HT_.out (by kernel_rfl)) (by decide) (fun K hK => ?_)
        refine event_step (by rfl) (exec_alloc32 rfl) ?_
        have hb5 : Below X10.heap.size X10 (w4.alloc (.cells #[.int .i64 0, .slice none 0 0, .slice none 0 0] 32)) := hb4.alloc hb4.size _
        obtain ⟨⟨B1', d1'⟩, ⟨B2', d2'⟩, g', ex, ep, hg, hge, hsv⟩ := hR2
        obtain ⟨rfl, rfl, rfl, rfl⟩ := runV5_inj ex
        injection ep with ep
        injection ep with ep
        injection ep with ep
        subst ep
        refine hK.out _ _ ⟨pw_cell_below hb5 hHeld.1, pw_cell_below hb5 hHeld.2.1, pw_cell_below hb5 hHeld.2.2.1, pw_cell_below hb5 hHeld.2.2.2.1, pw_cell_below hb5 hHeld.2.2.2.2.1, pw_cell_below hb5 hHeld.2.2.2.2.2.1, pw_cell_below hb5 hHeld.2.2.2.2.2.2.1, pw_cell_below hb5 hHeld.2.2.2.2.2.2.2.1, pw_cell_below hb5 hHeld.2.2.2.2.2.2.2.2⟩ (fun hHeld2 => ?_)
        clear hK K
        exact norm_ (by simp only [putAll, Act.put, List.setIfInBounds_toArray, List.set_cons_zero, List.set_cons_succ]; rfl) (hCont (x2, x3, x6, (B1', d1'), (B2', d2'), w4.heap.size) _ ⟨hb5, hg, hge, hsv⟩)
    rintro ⟨x2, x3, x6, ⟨B1, d1⟩, ⟨B2, d2⟩, g10⟩ w4 ⟨hb4, hg, hge, hsv⟩
    have HB4 := Aside0.mk hb4
    have HGE : Aside0 (X10.heap.size ≤ g10) := ⟨hge⟩
    have HGG := Aside0.mk hg
    have HSV := Aside0.mk hsv
    clear hb4 hg hge hsv
    refine norm_ (a' := ?_) ?_ ?_
    rotate_left
    · simp only [put5, putAll, runV5, runS5, Act.put, List.setIfInBounds_toArray, List.set_cons_zero, List.set_cons_succ]
      rfl
    refine last_ (i := 13) (N := none) #[true, true, true, true, true, true, true, true, true, true, true, true, true, true, false, false] rfl rfl (one_of HT_.out (by kernel_rfl)) (by decide) (fun K hK => ?_)
    obtain ⟨y0, y1, y2⟩ := trio_cells HGG.out
    have z0 := run_frozen HGG.out 0
    have z1 := run_frozen HGG.out 1
    have z2 := run_frozen HGG.out 2
    refine skip_ (w1 := ?_) (by rfl) rfl ?_ ?_
    rotate_left
    · go_simp
      rfl
    refine hK.out _ _ ?_
    clear hK K
    clear y0 y1 y2 z0 z1 z2
    refine pure_ (i := 14) (N := some 16) (v := ?_) (a' := ?_) #[true, true, true, true, true, true, true, true, true, true, true, true, true, true, true, false] rfl rfl (any_of HT_.out (by kernel_rfl)) (fun _ _ _ h => h) (Or.inl ⟨by rfl, ?_⟩) ?_ ?_
    rotate_left
    · intro w'
      go_simp
      with_reducible rfl
    rotate_left
    · simp only [Act.put, List.setIfInBounds_toArray, List.set_cons_zero, List.set_cons_succ, i64_w, i32_w]
      rfl
    refine pure_ (i := 15) (N := some 17) (v := ?_) (a' := ?_) #[true, true, true, true, true, true, true, true, true, true, true, true, true, true, true, true] rfl rfl (any_of HT_.out (by kernel_rfl)) (fun _ _ _ h => h) (Or.inl ⟨by rfl, ?_⟩) ?_ ?_
    rotate_left
    · intro w'
      go_simp
      with_reducible rfl
    rotate_left
    · simp only [Act.put, List.setIfInBounds_toArray, List.set_cons_zero, List.set_cons_succ, i64_w, i32_w]
      rfl
    refine done_ (done_of HT_.out (by kernel_rfl)) ?_
    obtain ⟨V10, hV10⟩ : ∃ V, ((w4.setCell ⟨g10, 0, none⟩ (.int .i64 q.1.s)).setCell ⟨g10, 1, none⟩ (.slice B1 q.1.at_.length d1)).setCell ⟨g10, 2, none⟩ (.slice B2 q.1.tp.length d2) = V := ⟨_, rfl⟩
    have HBV : Aside0 (Below X10.heap.size X10 V10) := ⟨by rw [← hV10]; exact ((HB4.out.setCell (p := ⟨g10, 0, none⟩) HGE.out _).setCell (p := ⟨g10, 1, none⟩) HGE.out _).setCell (p := ⟨g10, 2, none⟩) HGE.out _⟩
    have HSD : Aside0 (SceneAt q V10 g10 (.slice B1 q.1.at_.length d1) (.slice B2 q.1.tp.length d2)) := ⟨by rw [← hV10]; exact ⟨set3 HGG.out _ _ _, HSV.out _ _ _ _ (Below.refl _ _)⟩⟩
    obtain ⟨pD, hpD⟩ : ∃ p, Value.slice B1 q.1.at_.length d1 = p := ⟨_, rfl⟩
    obtain ⟨rD, hrD⟩ : ∃ p, Value.slice B2 q.1.tp.length d2 = p := ⟨_, rfl⟩
    rw [hpD, hrD] at HSD
    try rw [hV10]
    try simp only [hpD, hrD]
    clear HB4 HGE HGG HSV hV10 hpD hrD
    have HB_ := Aside0.mk (below_step HB.out HBV.out)
    have HM_ := Aside0.mk (heap_below HM.out HBV.out)
    have HC_ := Aside0.mk (Kd.C_below HC.out HBV.out)
    have HSC_ := Aside0.mk (scene_below HSC.out HBV.out)
    clear HB HM HC HSC
    have HB := HB_
    have HM := HM_
    have HC := HC_
    have HSC := HSC_
    clear HSC_
    clear HB_ HM_ HC_ HBV hHeld HT_ HW_
    try go_wp2_with fail
    obtain ⟨hcc11, _⟩ := bcell HB.out
    obtain ⟨n0, n1, n2, n3⟩ := run_cells4 HM.out
    refine start_ (n := 14) (S := fun w' => w'.cell? ⟨w.heap.size, 0, none⟩ = some (.int .i64 a0) ∧ w'.cell? ⟨w.heap.size, 1, none⟩ = some (.int .i64 a1) ∧ w'.cell? ⟨w.heap.size, 2, none⟩ = some (.int .i64 a2) ∧ w'.cell? ⟨w.heap.size, 3, none⟩ = some (.slice A l.length c) ∧ w'.cell? ⟨w.heap.size, 4, none⟩ = some (.slice A5 inp.length c5) ∧ w'.cell? ⟨bm, 0, none⟩ = some (.int .i64 a0) ∧ w'.cell? ⟨bm, 1, none⟩ = some (.int .i64 a1) ∧ w'.cell? ⟨bm, 2, none⟩ = some (.int .i64 a2) ∧ w'.cell? ⟨bm, 3, none⟩ = some (.slice (some ⟨gB, 0, none⟩) lp.length cb)) (ds := []) #[false, false, false, false, false, false, false, false, false, false, false, false, false, false] (by kernel_rfl) rfl rfl ⟨(hcc11 _ 0 hz).trans k0, (hcc11 _ 1 hz).trans k1, (hcc11 _ 2 hz).trans k2, (hcc11 _ 3 hz).trans k3, (hcc11 _ 4 hz).trans k4, n0, n1, n2, n3⟩ (fun hHeld => ?_); refine with_tabW regO11.tab regO11.bits (fun HT_ HW_ => ?_)
    clear hcc11 n0 n1 n2 n3
    have HBD := Aside0.mk (below_drew1 HB.out)
    have HMD := Aside0.mk (heap_drew HM.out)
    have HCD := Aside0.mk (Kd.C_below HC.out (below_drew (Below.refl _ _)))
    have HDC := Aside0.mk (scene_drew HSC.out)
    have HDD := Aside0.mk (scene_drew HSD.out)
    clear HB HM HC HSC HSD
    have HB := HBD
    have HM := HMD
    have HC := HCD
    have HSC := HDC
    clear HDC
    have HSD := HDD
    clear HDD
    clear HBD HMD HCD
    generalize V10.drew = X11 at HB HM HC HSC HSD hHeld ⊢
    refine pure_ (i := 0) (N := some 105) (v := ?_) (a' := ?_) #[true, false, false, false, false, false, false, false, false, false, false, false, false, false] rfl rfl (any_of HT_.out (by kernel_rfl)) (fun _ _ _ h => h) (Or.inl ⟨by rfl, ?_⟩) ?_ ?_
    rotate_left
    · intro w'
      go_simp
      with_reducible rfl
    rotate_left
    · simp only [Act.put, List.setIfInBounds_toArray, List.set_cons_zero, List.set_cons_succ, i64_w, i32_w]
      rfl
    refine pure_ (i := 4) (N := some 109) (v := ?_) (a' := ?_) #[true, false, false, false, true, false, false, false, false, false, false, false, false, false] rfl rfl (any_of HT_.out (by kernel_rfl)) (fun _ _ _ h => h) (Or.inl ⟨by rfl, ?_⟩) ?_ ?_
    rotate_left
    · intro w'
      go_simp
      with_reducible rfl
    rotate_left
    · simp only [Act.put, List.setIfInBounds_toArray, List.set_cons_zero, List.set_cons_succ, i64_w, i32_w]
      rfl
    refine pure_ (i := 7) (N := some 112) (v := ?_) (a' := ?_) #[true, false, false, false, true, false, false, true, false, false, false, false, false, false] rfl rfl (any_of HT_.out (by kernel_rfl)) (fun _ _ _ h => h) (Or.inl ⟨by rfl, ?_⟩) ?_ ?_
    rotate_left
    · intro w'
      go_simp
      with_reducible rfl
    rotate_left
    · simp only [Act.put, List.setIfInBounds_toArray, List.set_cons_zero, List.set_cons_succ, i64_w, i32_w]
      rfl
    refine take_ (i := 1) (N := some 106) (v := ?_) (a' := ?_) #[true, true, false, false, true, false, false, true, false, false, false, false, false, false] rfl rfl (take_ofW HT_.out HW_.out (by kernel_rfl)) (fun _ _ _ h => h) (Or.inl ⟨by rfl, ?_⟩) hHeld ?_ ?_
    rotate_left
    · rintro w' ⟨s0, s1, s2, s3, s4, s5, s6, s7, s8⟩
      go_simp
      with_reducible rfl
    rotate_left
    · simp only [Act.put, List.setIfInBounds_toArray, List.set_cons_zero, List.set_cons_succ, i64_w, i32_w]
      rfl
    refine take_ (i := 5) (N := some 110) (v := ?_) (a' := ?_) #[true, true, false, false, true, true, false, true, false, false, false, false, false, false] rfl rfl (take_ofW HT_.out HW_.out (by kernel_rfl)) (fun _ _ _ h => h) (Or.inl ⟨by rfl, ?_⟩) hHeld ?_ ?_
    rotate_left
    · rintro w' ⟨s0, s1, s2, s3, s4, s5, s6, s7, s8⟩
      go_simp
      with_reducible rfl
    rotate_left
    · simp only [Act.put, List.setIfInBounds_toArray, List.set_cons_zero, List.set_cons_succ, i64_w, i32_w]
      rfl
    refine law_invG (nt := 152) (bits := regO11.bits_) (i2 := 2) (i3 := 3) (i6 := 6) (i8 := 8) (i13 := 99) (s2 := 107) (s3 := 108) (s6 := 111) (s8 := 113) (s13 := 151) ⟨by decide, by decide, by decide, by decide, by decide, by decide, by decide, by decide, by decide, by decide, by decide, by decide, by decide⟩ (a0 := a0) (a1 := a1) (a2 := a2) (rs := l) (inp := inp) (R := (fun d _ v _ _ => d = true → v = .tuple #[.int .i64 sq.1, .int .i64 sq.2])) (p0 := false) (e0 := true) X11 (fun p b c_ d e h1 h1p h2 h3 h4 => by rw [ready_eq, HT_.out]; exact regO11.steps p b c_ d e h1 h1p h2 h3 h4) (o2 := _) (o3 := _) (o6 := _) (o8 := _) (o13 := default) rfl rfl rfl (fun h => by cases h) (sM := 106) (sX := 110) (sN := 112) (F := 21) _ rfl (A := A) (A5 := A5) (c := c) (c5 := c5) (m := most) (fun _ => ⟨rfl, by decide, by decide, by decide, by decide, by decide, by decide, rfl, (Kd.C_below HR.out HB.out), rfl, rfl, rfl⟩) ⟨rfl, rfl, rfl⟩ ⟨rfl, rfl, rfl⟩ ⟨rfl, rfl, rfl⟩ Try.func21 (by kernel_rfl) rfl (by decide) (by decide) rfl rfl (Kd.C_below H5.out HB.out) (by have := HS1.out; omega) (fun r hr => by have := HS3.out r hr; omega) (by have := HS2.out; omega) (fun w_ B cb_ D cd e1_ x8_ x13_ hb_ hR_ q1 q2 q3 => (HSPL.out w_ B cb_ D cd q1 q2 q3).mono (by rintro en w' ⟨rfl, hb⟩; exact ⟨_, rfl, fun _ => rfl, hb⟩)) (fun d e x8 x13 w_ w' h hb => h) (fun w' hb => ⟨pw_cell_below hb hHeld.1, pw_cell_below hb hHeld.2.1, pw_cell_below hb hHeld.2.2.1, pw_cell_below hb hHeld.2.2.2.1, pw_cell_below hb hHeld.2.2.2.2.1, pw_cell_below hb hHeld.2.2.2.2.2.1, pw_cell_below hb hHeld.2.2.2.2.2.2.1, pw_cell_below hb hHeld.2.2.2.2.2.2.2.1, pw_cell_below hb hHeld.2.2.2.2.2.2.2.2⟩) (by simp only [put5, Act.put, List.setIfInBounds_toArray, List.set_cons_zero, List.set_cons_succ]; rfl) (fun h => by cases h) (fun h => by cases h) 5 4 rfl ?_ (fun h => ?_)
    rotate_left
    · cases h
    rintro x2 x3 x6 v x13 V11 hb4 hv
    obtain rfl := hv rfl
    have HB4 := Aside0.mk hb4
    clear hb4
    refine norm_ (a' := ?_) ?_ ?_
    rotate_left
    · simp only [put5, putAll, runV5, runS5, Act.put, List.setIfInBounds_toArray, List.set_cons_zero, List.set_cons_succ]
      rfl
    refine pure_ (i := 9) (N := some 104) (v := ?_) (a' := ?_) #[true, true, true, true, true, true, true, true, true, true, false, false, false, false] rfl rfl (any_of HT_.out (by kernel_rfl)) (fun _ _ _ h => h) (Or.inl ⟨by rfl, ?_⟩) ?_ ?_
    rotate_left
    · intro w'
      go_simp
      with_reducible rfl
    rotate_left
    · simp only [Act.put, List.setIfInBounds_toArray, List.set_cons_zero, List.set_cons_succ, i64_w, i32_w]
      rfl
    refine pure_ (i := 10) (N := some 114) (v := ?_) (a' := ?_) #[true, true, true, true, true, true, true, true, true, true, true, false, false, false] rfl rfl (any_of HT_.out (by kernel_rfl)) (fun _ _ _ h => h) (Or.inl ⟨by rfl, ?_⟩) ?_ ?_
    rotate_left
    · intro w'
      go_simp
      with_reducible rfl
    rotate_left
    · simp only [Act.put, List.setIfInBounds_toArray, List.set_cons_zero, List.set_cons_succ, i64_w, i32_w]
      rfl
    refine pure_ (i := 11) (N := some 115) (v := ?_) (a' := ?_) #[true, true, true, true, true, true, true, true, true, true, true, true, false, false] rfl rfl (any_of HT_.out (by kernel_rfl)) (fun _ _ _ h => h) (Or.inl ⟨by rfl, ?_⟩) ?_ ?_
    rotate_left
    · intro w'
      go_simp
      with_reducible rfl
    rotate_left
    · simp only [Act.put, List.setIfInBounds_toArray, List.set_cons_zero, List.set_cons_succ, i64_w, i32_w]
      rfl
    refine pure_ (i := 12) (N := some 18) (v := ?_) (a' := ?_) #[true, true, true, true, true, true, true, true, true, true, true, true, true, false] rfl rfl (any_of HT_.out (by kernel_rfl)) (fun _ _ _ h => h) (Or.inl ⟨by rfl, ?_⟩) ?_ ?_
    rotate_left
    · intro w'
      go_simp
      with_reducible rfl
    rotate_left
    · simp only [Act.put, List.setIfInBounds_toArray, List.set_cons_zero, List.set_cons_succ, i64_w, i32_w]
      rfl
    refine pure_ (i := 13) (N := some 19) (v := ?_) (a' := ?_) #[true, true, true, true, true, true, true, true, true, true, true, true, true, true] rfl rfl (any_of HT_.out (by kernel_rfl)) (fun _ _ _ h => h) (Or.inl ⟨by rfl, ?_⟩) ?_ ?_
    rotate_left
    · intro w'
      go_simp
      with_reducible rfl
    rotate_left
    · simp only [Act.put, List.setIfInBounds_toArray, List.set_cons_zero, List.set_cons_succ, i64_w, i32_w]
      rfl
    refine done_ (done_of HT_.out (by kernel_rfl)) ?_
    have HBV := HB4
    clear HB4
    have HB_ := Aside0.mk (below_step HB.out HBV.out)
    have HM_ := Aside0.mk (heap_below HM.out HBV.out)
    have HC_ := Aside0.mk (Kd.C_below HC.out HBV.out)
    have HSC_ := Aside0.mk (scene_below HSC.out HBV.out)
    have HSD_ := Aside0.mk (scene_below HSD.out HBV.out)
    clear HB HM HC HSC HSD
    have HB := HB_
    have HM := HM_
    have HC := HC_
    have HSC := HSC_
    clear HSC_
    have HSD := HSD_
    clear HSD_
    clear HB_ HM_ HC_ HBV hHeld HT_ HW_
    try go_wp2_with fail
    obtain ⟨hcc12, _⟩ := bcell HB.out
    obtain ⟨n0, n1, n2, n3⟩ := run_cells4 HM.out
    refine start_ (n := 12) (S := fun w' => w'.cell? ⟨w.heap.size, 0, none⟩ = some (.int .i64 a0) ∧ w'.cell? ⟨w.heap.size, 1, none⟩ = some (.int .i64 a1) ∧ w'.cell? ⟨w.heap.size, 2, none⟩ = some (.int .i64 a2) ∧ w'.cell? ⟨w.heap.size, 3, none⟩ = some (.slice A l.length c) ∧ w'.cell? ⟨w.heap.size, 4, none⟩ = some (.slice A5 inp.length c5) ∧ w'.cell? ⟨bm, 0, none⟩ = some (.int .i64 a0) ∧ w'.cell? ⟨bm, 1, none⟩ = some (.int .i64 a1) ∧ w'.cell? ⟨bm, 2, none⟩ = some (.int .i64 a2) ∧ w'.cell? ⟨bm, 3, none⟩ = some (.slice (some ⟨gB, 0, none⟩) lp.length cb)) (ds := []) #[false, false, false, false, false, false, false, false, false, false, false, false] (by kernel_rfl) rfl rfl ⟨(hcc12 _ 0 hz).trans k0, (hcc12 _ 1 hz).trans k1, (hcc12 _ 2 hz).trans k2, (hcc12 _ 3 hz).trans k3, (hcc12 _ 4 hz).trans k4, n0, n1, n2, n3⟩ (fun hHeld => ?_); refine with_tabW regO12.tab regO12.bits (fun HT_ HW_ => ?_)
    clear hcc12 n0 n1 n2 n3
    have HBD := Aside0.mk (below_drew1 HB.out)
    have HMD := Aside0.mk (heap_drew HM.out)
    have HCD := Aside0.mk (Kd.C_below HC.out (below_drew (Below.refl _ _)))
    have HDC := Aside0.mk (scene_drew HSC.out)
    have HDD := Aside0.mk (scene_drew HSD.out)
    clear HB HM HC HSC HSD
    have HB := HBD
    have HM := HMD
    have HC := HCD
    have HSC := HDC
    clear HDC
    have HSD := HDD
    clear HDD
    clear HBD HMD HCD
    generalize V11.drew = X12 at HB HM HC HSC HSD hHeld ⊢
    refine pure_ (i := 2) (N := some 119) (v := ?_) (a' := ?_) #[false, false, true, false, false, false, false, false, false, false, false, false] rfl rfl (any_of HT_.out (by kernel_rfl)) (fun _ _ _ h => h) (Or.inl ⟨by rfl, ?_⟩) ?_ ?_
    rotate_left
    · intro w'
      go_simp
      with_reducible rfl
    rotate_left
    · simp only [Act.put, List.setIfInBounds_toArray, List.set_cons_zero, List.set_cons_succ, i64_w, i32_w]
      rfl
    refine pure_ (i := 5) (N := some 122) (v := ?_) (a' := ?_) #[false, false, true, false, false, true, false, false, false, false, false, false] rfl rfl (any_of HT_.out (by kernel_rfl)) (fun _ _ _ h => h) (Or.inl ⟨by rfl, ?_⟩) ?_ ?_
    rotate_left
    · intro w'
      go_simp
      with_reducible rfl
    rotate_left
    · simp only [Act.put, List.setIfInBounds_toArray, List.set_cons_zero, List.set_cons_succ, i64_w, i32_w]
      rfl
    refine take_ (i := 0) (N := some 117) (v := ?_) (a' := ?_) #[true, false, true, false, false, true, false, false, false, false, false, false] rfl rfl (take_ofW HT_.out HW_.out (by kernel_rfl)) (fun _ _ _ h => h) (Or.inl ⟨by rfl, ?_⟩) hHeld ?_ ?_
    rotate_left
    · rintro w' ⟨s0, s1, s2, s3, s4, s5, s6, s7, s8⟩
      go_simp
      with_reducible rfl
    rotate_left
    · simp only [Act.put, List.setIfInBounds_toArray, List.set_cons_zero, List.set_cons_succ, i64_w, i32_w]
      rfl
    refine take_ (i := 3) (N := some 120) (v := ?_) (a' := ?_) #[true, false, true, true, false, true, false, false, false, false, false, false] rfl rfl (take_ofW HT_.out HW_.out (by kernel_rfl)) (fun _ _ _ h => h) (Or.inl ⟨by rfl, ?_⟩) hHeld ?_ ?_
    rotate_left
    · rintro w' ⟨s0, s1, s2, s3, s4, s5, s6, s7, s8⟩
      go_simp
      with_reducible rfl
    rotate_left
    · simp only [Act.put, List.setIfInBounds_toArray, List.set_cons_zero, List.set_cons_succ, i64_w, i32_w]
      rfl
    refine law_invG (nt := 152) (bits := regO12.bits_) (i2 := 99) (i3 := 1) (i6 := 4) (i8 := 6) (i13 := 99) (s2 := 117) (s3 := 118) (s6 := 121) (s8 := 123) (s13 := 151) ⟨by decide, by decide, by decide, by decide, by decide, by decide, by decide, by decide, by decide, by decide, by decide, by decide, by decide⟩ (a0 := a0) (a1 := a1) (a2 := a2) (rs := lp) (inp := inp) (R := (fun d _ v _ _ => d = true → v = .tuple #[.int .i64 sq.1, .int .i64 sq.2])) (p0 := true) (e0 := true) X12 (fun p b c_ d e h1 h1p h2 h3 h4 => by rw [ready_eq, HT_.out]; exact regO12.steps p b c_ d e h1 h1p h2 h3 h4) (o2 := default) (o3 := _) (o6 := _) (o8 := _) (o13 := default) rfl rfl rfl (fun h => by cases h) (sM := 0) (sX := 120) (sN := 122) (F := 21) _ rfl (A := (some ⟨gB, 0, none⟩)) (A5 := A5) (c := cb) (c5 := c5) (m := most) (fun h => by cases h) ⟨rfl, rfl, rfl⟩ ⟨rfl, rfl, rfl⟩ ⟨rfl, rfl, rfl⟩ Try.func21 (by kernel_rfl) rfl (by decide) (by decide) rfl rfl (Kd.C_below H5.out HB.out) (by have := HS1.out; have := HLP.out; omega) (fun r hr => by have := HS3.out r (HPM.out.mem_iff.1 hr); omega) (by have := HS2.out; omega) (fun w_ B cb_ D cd e1_ x8_ x13_ hb_ hR_ q1 q2 q3 => (HSPP.out w_ B cb_ D cd q1 q2 q3).mono (by rintro en w' ⟨rfl, hb⟩; exact ⟨_, rfl, fun _ => rfl, hb⟩)) (fun d e x8 x13 w_ w' h hb => h) (fun w' hb => ⟨pw_cell_below hb hHeld.1, pw_cell_below hb hHeld.2.1, pw_cell_below hb hHeld.2.2.1, pw_cell_below hb hHeld.2.2.2.1, pw_cell_below hb hHeld.2.2.2.2.1, pw_cell_below hb hHeld.2.2.2.2.2.1, pw_cell_below hb hHeld.2.2.2.2.2.2.1, pw_cell_below hb hHeld.2.2.2.2.2.2.2.1, pw_cell_below hb hHeld.2.2.2.2.2.2.2.2⟩) (by simp only [put5, Act.put, List.setIfInBounds_toArray, List.set_cons_zero, List.set_cons_succ]; rfl) (fun h => by cases h) (fun _ => ⟨_, _, rfl, HCB8.out, HC.out⟩) 5 3 rfl ?_ (fun h => ?_)
    rotate_left
    · cases h
    rintro x2 x3 x6 v x13 V12 hb4 hv
    obtain rfl := hv rfl
    have HB4 := Aside0.mk hb4
    clear hb4
    refine norm_ (a' := ?_) ?_ ?_
    rotate_left
    · simp only [put5, putAll, runV5, runS5, Act.put, List.setIfInBounds_toArray, List.set_cons_zero, List.set_cons_succ]
      rfl
    refine pure_ (i := 7) (N := some 116) (v := ?_) (a' := ?_) #[true, true, true, true, true, true, true, true, false, false, false, false] rfl rfl (any_of HT_.out (by kernel_rfl)) (fun _ _ _ h => h) (Or.inl ⟨by rfl, ?_⟩) ?_ ?_
    rotate_left
    · intro w'
      go_simp
      with_reducible rfl
    rotate_left
    · simp only [Act.put, List.setIfInBounds_toArray, List.set_cons_zero, List.set_cons_succ, i64_w, i32_w]
      rfl
    refine pure_ (i := 8) (N := some 124) (v := ?_) (a' := ?_) #[true, true, true, true, true, true, true, true, true, false, false, false] rfl rfl (any_of HT_.out (by kernel_rfl)) (fun _ _ _ h => h) (Or.inl ⟨by rfl, ?_⟩) ?_ ?_
    rotate_left
    · intro w'
      go_simp
      with_reducible rfl
    rotate_left
    · simp only [Act.put, List.setIfInBounds_toArray, List.set_cons_zero, List.set_cons_succ, i64_w, i32_w]
      rfl
    refine pure_ (i := 9) (N := some 125) (v := ?_) (a' := ?_) #[true, true, true, true, true, true, true, true, true, true, false, false] rfl rfl (any_of HT_.out (by kernel_rfl)) (fun _ _ _ h => h) (Or.inl ⟨by rfl, ?_⟩) ?_ ?_
    rotate_left
    · intro w'
      go_simp
      with_reducible rfl
    rotate_left
    · simp only [Act.put, List.setIfInBounds_toArray, List.set_cons_zero, List.set_cons_succ, i64_w, i32_w]
      rfl
    refine pure_ (i := 10) (N := some 20) (v := ?_) (a' := ?_) #[true, true, true, true, true, true, true, true, true, true, true, false] rfl rfl (any_of HT_.out (by kernel_rfl)) (fun _ _ _ h => h) (Or.inl ⟨by rfl, ?_⟩) ?_ ?_
    rotate_left
    · intro w'
      go_simp
      with_reducible rfl
    rotate_left
    · simp only [Act.put, List.setIfInBounds_toArray, List.set_cons_zero, List.set_cons_succ, i64_w, i32_w]
      rfl
    refine pure_ (i := 11) (N := some 21) (v := ?_) (a' := ?_) #[true, true, true, true, true, true, true, true, true, true, true, true] rfl rfl (any_of HT_.out (by kernel_rfl)) (fun _ _ _ h => h) (Or.inl ⟨by rfl, ?_⟩) ?_ ?_
    rotate_left
    · intro w'
      go_simp
      with_reducible rfl
    rotate_left
    · simp only [Act.put, List.setIfInBounds_toArray, List.set_cons_zero, List.set_cons_succ, i64_w, i32_w]
      rfl
    refine done_ (done_of HT_.out (by kernel_rfl)) ?_
    have HBV := HB4
    clear HB4
    have HB_ := Aside0.mk (below_step HB.out HBV.out)
    have HM_ := Aside0.mk (heap_below HM.out HBV.out)
    have HC_ := Aside0.mk (Kd.C_below HC.out HBV.out)
    have HSC_ := Aside0.mk (scene_below HSC.out HBV.out)
    have HSD_ := Aside0.mk (scene_below HSD.out HBV.out)
    clear HB HM HC HSC HSD
    have HB := HB_
    have HM := HM_
    have HC := HC_
    have HSC := HSC_
    clear HSC_
    have HSD := HSD_
    clear HSD_
    clear HB_ HM_ HC_ HBV hHeld HT_ HW_
    obtain ⟨n0, n1, n2⟩ := trio_cells HSC.out.1
    obtain ⟨n3, n4, n5⟩ := trio_cells HSD.out.1
    go_wp2_with (first
      | (go_at_call 22; refine (same_C HSC.out.2 HSD.out.2).mono ?_; rintro e w13 ⟨rfl, hb⟩; have hB13 := Aside0.mk (below_step HB.out hb); clear HB hb; have HB := hB13; clear hB13)
      | (go_at_call 10; refine (awake_walk _).mono ?_; rintro e w14 ⟨rfl, hb⟩; have hB13 := Aside0.mk (below_step HB.out hb); clear HB hb; have HB := hB13; clear hB13))
    go_ret
    exact ⟨rfl, below_step HB0.out HB.out⟩
    -- END
end Go.Proofs.Ytfoodfhhdbaieaa.Giv
