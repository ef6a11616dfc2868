-- CUT by a program of this session: what the claim does not use is left out
import Derived.Test.YtfoodfhhdbaieaaDoorT23
namespace Go.Proofs.YtfoodfhhdbaieaaDoor.Giv
set_option maxRecDepth 100000
set_option linter.unusedSimpArgs false
set_option linter.unusedVariables false
open Go.RowKit Go.Shelf Go.Proofs.YtfoodfhhdbaieaaDoorW.PrintWords Go.Proofs.YtfoodfhhdbaieaaDoorW.PrintLast Go.Proofs.YtfoodfhhdbaieaaDoorW.PrintMore
open Go.Proofs.YtfoodfhhdbaieaaDoor.Ka (S40 k40 z40 rd_T40 at_T40 k40_open k40_mk k40_mkF rd_L1 at_L1 info3 info38 info40)

def CopyOk (w : World) (k : Nat) : Prop := k ≠ w.heap.size + 1 ∧ k ≠ w.heap.size + 2
structure CopyAt (w : World) (a0 a1 a2 : Int) (A : Option Addr) (n c : Nat) (v : Value) (xs : List S40) (wr : World) : Prop where
 b0 : wr.heap[w.heap.size]? = some (.cells #[.int .i64 a0, .int .i64 a1, .int .i64 a2, .slice A n c] 24 (0, 0))
 b1 : wr.heap[w.heap.size + 1]? = some (.cells #[.int .i64 0, .int .i64 0, .int .i64 0, .slice none 0 0] 24 (0, 0))
 b2 : wr.heap[w.heap.size + 2]? = some (.cells #[.int .i64 a0, .int .i64 a1, .int .i64 a2, v] 24 (0, 0))
 row : Kd.N k40 40 wr w.heap.size (CopyOk w) v xs
 below : Below w.heap.size w wr
def CopyOut (w : World) (a0 a1 a2 : Int) (l : List S40) (e : Ending) (w' : World) : Prop := ∃ B cb, e = .returned (.agg #[.int .i64 a0, .int .i64 a1, .int .i64 a2, .slice B l.length cb]) ∧ l.length ≤ cb ∧ Kd.C k40 w' B l.length l ∧ Below w.heap.size w w'
def CopyOutN (w : World) (a0 a1 a2 : Int) (l : List S40) (e : Ending) (w' : World) : Prop := ∃ B cb, e = .returned (.agg #[.int .i64 a0, .int .i64 a1, .int .i64 a2, .slice B l.length cb]) ∧ l.length ≤ cb ∧ Kd.N k40 40 w' w.heap.size (CopyOk w) (.slice B l.length cb) l ∧ Below w.heap.size w w'
theorem CopyAt.next_world {w : World} {a0 a1 a2 : Int} {A : Option Addr} {n c : Nat} {v : Value} {xs : List S40} {wr w' : World} (h : CopyAt w a0 a1 a2 A n c v xs wr) (hb : Below wr.heap.size wr w') : CopyAt w a0 a1 a2 A n c v xs w' where
 b0 := (hb.block _ (Array.getElem?_eq_some_iff.1 h.b0).1).trans h.b0
 b1 := (hb.block _ (Array.getElem?_eq_some_iff.1 h.b1).1).trans h.b1
 b2 := (hb.block _ (Array.getElem?_eq_some_iff.1 h.b2).1).trans h.b2
 row := Kd.N_below h.row hb
 below := h.below.trans (hb.mono h.below.size)
theorem copy_keep {w : World} {a0 a1 a2 : Int} {A : Option Addr} {n c : Nat} {v : Value} {xs : List S40} {w1 w2 : World} (h : CopyAt w a0 a1 a2 A n c v xs w1) (hg : w1.grownBy w2 v.ownBlock) {g : Nat} {cs : Array Value} (hc : w1.heap[g]? = some (.cells cs 24 (0, 0))) : w2.heap[g]? = some (.cells cs 24 (0, 0)) :=
 (hg.block g (Array.getElem?_eq_some_iff.1 hc).1 (Kd.N_ne h.row hc (by decide))).trans hc
theorem copy_next {w : World} {a0 a1 a2 : Int} {A : Option Addr} {n c : Nat} {v v2 : Value} {xs ys : List S40} {w1 w2 : World} (h : CopyAt w a0 a1 a2 A n c v xs w1) (hg : w1.grownBy w2 v.ownBlock) (hb : Below w.heap.size w w2) (hN : Kd.N k40 40 w2 w.heap.size (CopyOk w) v2 ys) {b2 : Nat} (e : w.heap.size + 2 = b2) : CopyAt w a0 a1 a2 A n c v2 ys (w2.setCell ⟨b2, 3, none⟩ v2) := by
 subst e
 refine ⟨?_, ?_, ?_, Kd.N_far hN (fun k hk => hk.2) v2, hb.setCell (p := ⟨w.heap.size + 2, 3, none⟩) (by simp) _⟩
 ·exact (heap_setCell_other w2 ⟨w.heap.size + 2, 3, none⟩ w.heap.size _ (by simp)).trans (copy_keep h hg h.b0)
 ·exact (heap_setCell_other w2 ⟨w.heap.size + 2, 3, none⟩ (w.heap.size + 1) _ (by simp)).trans (copy_keep h hg h.b1)
 ·exact (heap_setCell_same w2 (w.heap.size + 2) 3 _ 24 _ (copy_keep h hg h.b2)).trans rfl
theorem row_FK {N : Nat} {w1 : World} {r : S40} {B1 B3 B4 : Option Addr} {d1 d3 d4 : Nat} (t1 : w1.ownsRow N 3 1 (.slice B1 r.f1.length d1) r.f1.length (r.f1.map (Value.int .i64))) (t3 : w1.ownsRow N 3 1 (.slice B3 r.f3.length d3) r.f3.length (r.f3.map (Value.int .i64))) (t4 : w1.ownsRow N 3 1 (.slice B4 r.f4.length d4) r.f4.length (r.f4.map (Value.int .i64))) :
  Kd.FK k40 w1 (fun k => N ≤ k) r [.int .i64 r.f0, .slice B1 r.f1.length d1, .int .i64 r.f2, .slice B3 r.f3.length d3, .slice B4 r.f4.length d4] := by
 have le : ∀ {B : Option Addr} {d : Nat} {x : List Int}, w1.ownsRow N 3 1 (.slice B x.length d) x.length (x.map (Value.int .i64)) → x.length ≤ d := fun h => by
  obtain ⟨A', c', e, hl, _⟩ := own_C h
  injection e with _ _ e3
  rw [e3]; exact hl
 exact k40_mkF w1 _ r (le t1) (fun W' hW => own_C_agree t1 (Nat.le_refl _) W' hW) (le t3) (fun W' hW => own_C_agree t3 (Nat.le_refl _) W' hW) (le t4) (fun W' hW => own_C_agree t4 (Nat.le_refl _) W' hW)
set_option maxHeartbeats 2000000 in
set_option maxRecDepth 100000 in
theorem copy_walkN (a0 a1 a2 : Int) (A : Option Addr) (c : Nat) (l : List S40) (w : World) (hr : Kd.C k40 w A l.length l) (hl : l.length ≤ 1000000) (hrow : ∀ r ∈ l, r.f1.length ≤ 1000000 ∧ r.f3.length ≤ 1000000 ∧ r.f4.length ≤ 1000000) :
  Calls Tryd.prog 11 #[.agg #[.int .i64 a0, .int .i64 a1, .int .i64 a2, .slice A l.length c]] w (CopyOutN w a0 a1 a2 l) := by
 obtain ⟨W, hW⟩ : ∃ W, ((w.alloc (Obj.cells #[.int .i64 a0, .int .i64 a1, .int .i64 a2, .slice A l.length c] 24)).alloc (Obj.cells #[.int .i64 0, .int .i64 0, .int .i64 0, .slice none 0 0] 24)).alloc (Obj.cells #[.int .i64 a0, .int .i64 a1, .int .i64 a2, .slice none 0 0] 24) = W := ⟨_, rfl⟩
 have hC0 : CopyAt w a0 a1 a2 A l.length c (.slice none 0 0) [] W := by
  subst hW
  refine ⟨?_, ?_, ?_, Kd.N_nil _ _ _ _ _, ((((Below.refl w.heap.size w).alloc (Nat.le_refl _) _).alloc (by simp) _).alloc (by simp; omega) _)⟩
  ·rw [heap_alloc_old (h := by simp; omega), heap_alloc_old (h := by simp)]; exact heap_alloc_new _ _
  ·rw [heap_alloc_old (h := by simp)]; exact alloc2_new _ _ _
  ·have := heap_alloc_new ((w.alloc (Obj.cells #[.int .i64 a0, .int .i64 a1, .int .i64 a2, .slice A l.length c] 24)).alloc (Obj.cells #[.int .i64 0, .int .i64 0, .int .i64 0, .slice none 0 0] 24)) (Obj.cells #[.int .i64 a0, .int .i64 a1, .int .i64 a2, .slice none 0 0] 24)
   simpa using this
 have HC0 := Aside0.mk hC0
 have HW := Aside0.mk hW
 have HR := Aside0.mk hr
 have HL := Aside0.mk hl
 have HROW := Aside0.mk hrow
 clear hC0 hW hr hl hrow
 go_enter Tryd.func11, Tryd.ntmps11
 go_wp2_with fail
 rw [HW.out]
 go_loopg [4] l.length (fun gg s4 wr => ∃ i v, s4 = .int .i64 i ∧ Aside0 (0 ≤ i) ∧ Aside0 ((l.length : Int) - i = gg) ∧ Aside0 (CopyAt w a0 a1 a2 A l.length c v (l.take i.toNat) wr))
 case atStart => exact ⟨0, _, rfl, ⟨by omega⟩, ⟨by omega⟩, ⟨by simpa using HC0.out⟩⟩
 case round =>
  obtain ⟨i, v, rfl, HI, HG, HCA⟩ := hrel
  have i0 := HI.out
  obtain ⟨m0, m1, m2, m3⟩ := run_cells4 HCA.out.b0
  obtain ⟨o0, o1, o2, o3⟩ := run_cells4 HCA.out.b2
  have zr : w.heap.size + 2 < wr.heap.size := (Array.getElem?_eq_some_iff.1 HCA.out.b2).1
  by_cases cl : i < (l.length : Int)
  ·have clb : decide (i < (l.length : Int)) = true := decide_eq_true cl
   have CL := Aside0.mk cl
   obtain ⟨ad, A1, c1, A3, c3, A4, c4, e, h0, h1, h2, h3, h4, l1, g1, l3, g3, l4, g4⟩ := at_T40 (Kd.C_below HR.out HCA.out.below) i i0 cl
   subst e
   obtain ⟨r, hrr⟩ : ∃ r, rd_T40 l i = r := ⟨_, rfl⟩
   rw [hrr] at h0 h1 h2 h3 h4 l1 g1 l3 g3 l4 g4
   have HRR := Aside0.mk hrr
   have HL1 := Aside0.mk l1
   have HG1 := Aside0.mk g1
   have HL3 := Aside0.mk l3
   have HG3 := Aside0.mk g3
   have HL4 := Aside0.mk l4
   have HG4 := Aside0.mk g4
   clear l1 g1 l3 g3 l4 g4 hrr
   go_wp2_with fail
   rw [show w.heap.size + 1 + 1 = w.heap.size + 2 from rfl]
   obtain ⟨WX, hWX⟩ : ∃ WX, wr.alloc (Obj.cells #[.int .i64 r.f0, .slice A1 r.f1.length c1, .int .i64 r.f2, .slice A3 r.f3.length c3, .slice A4 r.f4.length c4] 40) = WX := ⟨_, rfl⟩
   rw [hWX]
   have hbX : Below wr.heap.size wr WX := by rw [← hWX]; exact (Below.refl _ _).alloc (Nat.le_refl _) _
   have hzX : wr.heap.size < WX.heap.size := by rw [← hWX]; simp
   have q0 : WX.cell? ⟨wr.heap.size, 0, none⟩ = some (.int .i64 r.f0) := by subst hWX; go_simp
   have q1 : WX.cell? ⟨wr.heap.size, 1, none⟩ = some (.slice A1 r.f1.length c1) := by subst hWX; go_simp
   have q2 : WX.cell? ⟨wr.heap.size, 2, none⟩ = some (.int .i64 r.f2) := by subst hWX; go_simp
   have q3 : WX.cell? ⟨wr.heap.size, 3, none⟩ = some (.slice A3 r.f3.length c3) := by subst hWX; go_simp
   have q4 : WX.cell? ⟨wr.heap.size, 4, none⟩ = some (.slice A4 r.f4.length c4) := by subst hWX; go_simp
   have HBX := Aside0.mk hbX
   have HCX := Aside0.mk (HCA.out.next_world hbX)
   have HLR := Aside0.mk (HROW.out r (by rw [← HRR.out]; unfold rd_T40; rw [List.getD_eq_getElem?_getD, List.getElem?_eq_getElem (by omega)]; exact List.getElem_mem _))
   have HOKP : Aside0 (∀ k, WX.heap.size ≤ k → CopyOk w k ∧ some k ≠ v.ownBlock) := ⟨fun k hk => ⟨⟨by omega, by omega⟩, fun e => by have := Kd.N_lt HCA.out.row k e.symm; omega⟩⟩
   have HTK : Aside0 (l.take (i + 1).toNat = l.take i.toNat ++ [r]) := ⟨by
    rw [show (i + 1).toNat = i.toNat + 1 by omega, List.take_succ_eq_append_getElem (by omega), ← HRR.out]
    simp [rd_T40, List.getD_eq_getElem?_getD, List.getElem?_eq_getElem (show i.toNat < l.length by omega)]⟩
   clear hWX hbX h0 h1 h2 h3 h4 m0 m1 m2 m3 o0 o1 o2 o3
   obtain ⟨b2, hb2⟩ : ∃ b2, w.heap.size + 2 = b2 := ⟨_, rfl⟩
   obtain ⟨bx, hbx⟩ : ∃ bx, wr.heap.size = bx := ⟨_, rfl⟩
   have p3 : WX.cell? ⟨b2, 3, none⟩ = some v := by rw [← hb2]; exact (run_cells4 HCX.out.b2).2.2.2
   rw [hbx] at q0 q1 q2 q3 q4
   rw [hb2, hbx]
   have HB2E := Aside0.mk hb2
   clear hb2 hbx hzX zr
   refine start_ (n := 23) (S := fun w' => w'.cell? ⟨b2, 3, none⟩ = some v ∧ w'.cell? ⟨bx, 0, none⟩ = some (.int .i64 r.f0) ∧ w'.cell? ⟨bx, 1, none⟩ = some (.slice A1 r.f1.length c1) ∧ w'.cell? ⟨bx, 2, none⟩ = some (.int .i64 r.f2) ∧ w'.cell? ⟨bx, 3, none⟩ = some (.slice A3 r.f3.length c3) ∧ w'.cell? ⟨bx, 4, none⟩ = some (.slice A4 r.f4.length c4)) (ds := [20, 22]) #[false, false, false, false, false, false, false, false, false, false, false, false, false, false, false, false, false, false, false, false, false, false, false] (by kernel_rfl) rfl rfl ⟨p3, q0, q1, q2, q3, q4⟩ (fun hHeld => ?_); refine with_tabW reg18.tab reg18.bits (fun HT_ HW_ => ?_)
   have HB0 := Aside0.mk (below_drew (Below.refl WX.heap.size WX))
   generalize WX.drew = W0 at HB0 hHeld ⊢
   refine pure_ (i := 0) (N := some 25) (v := ?_) (a' := ?_) #[true, false, false, false, false, false, false, false, false, false, false, false, false, false, false, false, false, false, false, false, false, false, false] rfl rfl (any_of HT_.out (by kernel_rfl)) (fun _ _ _ h => h) (Or.inl ⟨by rfl, ?_⟩) ?_ ?_
   rotate_left
   ·intro w'
    go_simp
    with_reducible rfl
   rotate_left
   ·simp only [Act.put, List.setIfInBounds_toArray, List.set_cons_zero, List.set_cons_succ, i64_w, i32_w]
    rfl
   refine pure_ (i := 2) (N := some 27) (v := ?_) (a' := ?_) #[true, false, true, false, false, false, false, false, false, false, false, false, false, false, false, false, false, false, false, false, false, false, false] rfl rfl (any_of HT_.out (by kernel_rfl)) (fun _ _ _ h => h) (Or.inl ⟨by rfl, ?_⟩) ?_ ?_
   rotate_left
   ·intro w'
    go_simp
    with_reducible rfl
   rotate_left
   ·simp only [Act.put, List.setIfInBounds_toArray, List.set_cons_zero, List.set_cons_succ, i64_w, i32_w]
    rfl
   refine pure_ (i := 5) (N := some 30) (v := ?_) (a' := ?_) #[true, false, true, false, false, true, false, false, false, false, false, false, false, false, false, false, false, false, false, false, false, false, false] rfl rfl (any_of HT_.out (by kernel_rfl)) (fun _ _ _ h => h) (Or.inl ⟨by rfl, ?_⟩) ?_ ?_
   rotate_left
   ·intro w'
    go_simp
    with_reducible rfl
   rotate_left
   ·simp only [Act.put, List.setIfInBounds_toArray, List.set_cons_zero, List.set_cons_succ, i64_w, i32_w]
    rfl
   refine pure_ (i := 8) (N := some 33) (v := ?_) (a' := ?_) #[true, false, true, false, false, true, false, false, true, false, false, false, false, false, false, false, false, false, false, false, false, false, false] rfl rfl (any_of HT_.out (by kernel_rfl)) (fun _ _ _ h => h) (Or.inl ⟨by rfl, ?_⟩) ?_ ?_
   rotate_left
   ·intro w'
    go_simp
    with_reducible rfl
   rotate_left
   ·simp only [Act.put, List.setIfInBounds_toArray, List.set_cons_zero, List.set_cons_succ, i64_w, i32_w]
    rfl
   refine pure_ (i := 11) (N := some 36) (v := ?_) (a' := ?_) #[true, false, true, false, false, true, false, false, true, false, false, true, false, false, false, false, false, false, false, false, false, false, false] rfl rfl (any_of HT_.out (by kernel_rfl)) (fun _ _ _ h => h) (Or.inl ⟨by rfl, ?_⟩) ?_ ?_
   rotate_left
   ·intro w'
    go_simp
    with_reducible rfl
   rotate_left
   ·simp only [Act.put, List.setIfInBounds_toArray, List.set_cons_zero, List.set_cons_succ, i64_w, i32_w]
    rfl
   refine pure_ (i := 15) (N := some 40) (v := ?_) (a' := ?_) #[true, false, true, false, false, true, false, false, true, false, false, true, false, false, false, true, false, false, false, false, false, false, false] rfl rfl (any_of HT_.out (by kernel_rfl)) (fun _ _ _ h => h) (Or.inl ⟨by rfl, ?_⟩) ?_ ?_
   rotate_left
   ·intro w'
    go_simp
    with_reducible rfl
   rotate_left
   ·simp only [Act.put, List.setIfInBounds_toArray, List.set_cons_zero, List.set_cons_succ, i64_w, i32_w]
    rfl
   refine take_ (i := 1) (N := some 26) (v := ?_) (a' := ?_) #[true, true, true, false, false, true, false, false, true, false, false, true, false, false, false, true, false, false, false, false, false, false, false] rfl rfl (take_ofW HT_.out HW_.out (by kernel_rfl)) (fun _ _ _ h => h) (Or.inl ⟨by rfl, ?_⟩) hHeld ?_ ?_
   rotate_left
   ·rintro w' ⟨s0, s1, s2, s3, s4, s5⟩
    go_simp
    with_reducible rfl
   rotate_left
   ·simp only [Act.put, List.setIfInBounds_toArray, List.set_cons_zero, List.set_cons_succ, i64_w, i32_w]
    rfl
   refine take_ (i := 3) (N := some 28) (v := ?_) (a' := ?_) #[true, true, true, true, false, true, false, false, true, false, false, true, false, false, false, true, false, false, false, false, false, false, false] rfl rfl (take_ofW HT_.out HW_.out (by kernel_rfl)) (fun _ _ _ h => h) (Or.inl ⟨by rfl, ?_⟩) hHeld ?_ ?_
   rotate_left
   ·rintro w' ⟨s0, s1, s2, s3, s4, s5⟩
    go_simp
    with_reducible rfl
   rotate_left
   ·simp only [Act.put, List.setIfInBounds_toArray, List.set_cons_zero, List.set_cons_succ, i64_w, i32_w]
    rfl
   refine take_ (i := 6) (N := some 31) (v := ?_) (a' := ?_) #[true, true, true, true, false, true, true, false, true, false, false, true, false, false, false, true, false, false, false, false, false, false, false] rfl rfl (take_ofW HT_.out HW_.out (by kernel_rfl)) (fun _ _ _ h => h) (Or.inl ⟨by rfl, ?_⟩) hHeld ?_ ?_
   rotate_left
   ·rintro w' ⟨s0, s1, s2, s3, s4, s5⟩
    go_simp
    with_reducible rfl
   rotate_left
   ·simp only [Act.put, List.setIfInBounds_toArray, List.set_cons_zero, List.set_cons_succ, i64_w, i32_w]
    rfl
   refine take_ (i := 9) (N := some 34) (v := ?_) (a' := ?_) #[true, true, true, true, false, true, true, false, true, true, false, true, false, false, false, true, false, false, false, false, false, false, false] rfl rfl (take_ofW HT_.out HW_.out (by kernel_rfl)) (fun _ _ _ h => h) (Or.inl ⟨by rfl, ?_⟩) hHeld ?_ ?_
   rotate_left
   ·rintro w' ⟨s0, s1, s2, s3, s4, s5⟩
    go_simp
    with_reducible rfl
   rotate_left
   ·simp only [Act.put, List.setIfInBounds_toArray, List.set_cons_zero, List.set_cons_succ, i64_w, i32_w]
    rfl
   refine take_ (i := 12) (N := some 37) (v := ?_) (a' := ?_) #[true, true, true, true, false, true, true, false, true, true, false, true, true, false, false, true, false, false, false, false, false, false, false] rfl rfl (take_ofW HT_.out HW_.out (by kernel_rfl)) (fun _ _ _ h => h) (Or.inl ⟨by rfl, ?_⟩) hHeld ?_ ?_
   rotate_left
   ·rintro w' ⟨s0, s1, s2, s3, s4, s5⟩
    go_simp
    with_reducible rfl
   rotate_left
   ·simp only [Act.put, List.setIfInBounds_toArray, List.set_cons_zero, List.set_cons_succ, i64_w, i32_w]
    rfl
   refine take_ (i := 16) (N := some 41) (v := ?_) (a' := ?_) #[true, true, true, true, false, true, true, false, true, true, false, true, true, false, false, true, true, false, false, false, false, false, false] rfl rfl (take_ofW HT_.out HW_.out (by kernel_rfl)) (fun _ _ _ h => h) (Or.inl ⟨by rfl, ?_⟩) hHeld ?_ ?_
   rotate_left
   ·rintro w' ⟨s0, s1, s2, s3, s4, s5⟩
    go_simp
    with_reducible rfl
   rotate_left
   ·simp only [Act.put, List.setIfInBounds_toArray, List.set_cons_zero, List.set_cons_succ, i64_w, i32_w]
    rfl
   refine copy_inv (fun l_ => by rw [ready_eq, HT_.out]) rfl (o4 := _) (o7 := _) (o10 := _) (o13 := _) (o14 := _) (o17 := _) rfl rfl rfl rfl rfl rfl ⟨rfl, rfl, rfl⟩ ⟨rfl, rfl, rfl⟩ ⟨rfl, rfl, rfl⟩ ⟨rfl, rfl, rfl⟩ ⟨rfl, rfl, rfl⟩ ⟨rfl, rfl, rfl⟩ _ rfl W0 (r1 := r.f1) (r3 := r.f3) (r4 := r.f4) rfl rfl rfl (Kd.C_below HG1.out (HBX.out.trans (HB0.out.mono HBX.out.size))) (Kd.C_below HG3.out (HBX.out.trans (HB0.out.mono HBX.out.size))) (Kd.C_below HG4.out (HBX.out.trans (HB0.out.mono HBX.out.size))) HLR.out.1 HLR.out.2.1 HLR.out.2.2 (fun w' hb => ⟨pw_cell_below hb hHeld.1, pw_cell_below hb hHeld.2.1, pw_cell_below hb hHeld.2.2.1, pw_cell_below hb hHeld.2.2.2.1, pw_cell_below hb hHeld.2.2.2.2.1, pw_cell_below hb hHeld.2.2.2.2.2⟩) (by simp only [put6, putAll, Act.put, List.setIfInBounds_toArray, List.set_cons_zero, List.set_cons_succ]; rfl) 5 ?_
   intro u1 u2 u3 B1 d1 B3 d3 B4 d4 w1 hb1 t1 t3 t4
   have HB1 := Aside0.mk hb1
   have HT1 := Aside0.mk t1
   have HT3 := Aside0.mk t3
   have HT4 := Aside0.mk t4
   refine norm_ (a' := ?_) ?_ ?_
   rotate_left
   ·simp only [put6, putAll, Act.put, List.setIfInBounds_toArray, List.set_cons_zero, List.set_cons_succ]
    rfl
   clear hb1 t1 t3 t4
   have hH1 := (⟨pw_cell_below HB1.out hHeld.1, pw_cell_below HB1.out hHeld.2.1, pw_cell_below HB1.out hHeld.2.2.1, pw_cell_below HB1.out hHeld.2.2.2.1, pw_cell_below HB1.out hHeld.2.2.2.2.1, pw_cell_below HB1.out hHeld.2.2.2.2.2⟩ : _ ∧ _ ∧ _ ∧ _ ∧ _ ∧ _)
   refine pure_ (i := 18) (N := some 43) (v := ?_) (a' := ?_) #[true, true, true, true, true, true, true, true, true, true, true, true, true, true, true, true, true, true, true, false, false, false, false] rfl rfl (any_of HT_.out (by kernel_rfl)) (fun _ _ _ h => h) (Or.inl ⟨by rfl, ?_⟩) ?_ ?_
   rotate_left
   ·intro w'
    go_simp
    with_reducible rfl
   rotate_left
   ·simp only [Act.put, List.setIfInBounds_toArray, List.set_cons_zero, List.set_cons_succ, i64_w, i32_w]
    rfl
   refine one_ (i := 19) (N := some 44) #[true, true, true, true, true, true, true, true, true, true, true, true, true, true, true, true, true, true, true, true, false, false, false] rfl rfl (one_of HT_.out (by kernel_rfl)) (by decide) (fun K hK => ?_)
   refine value_ (w1 := ?_) (v := ?_) (by rfl) rfl ?_ ?_
   rotate_left 2
   ·go_simp
    constructor
    ·rfl
    ·rfl
   refine hK.out _ _ ⟨pw_cell_below (below_alloc (Below.refl _ _) _) hH1.1, pw_cell_below (below_alloc (Below.refl _ _) _) hH1.2.1, pw_cell_below (below_alloc (Below.refl _ _) _) hH1.2.2.1, pw_cell_below (below_alloc (Below.refl _ _) _) hH1.2.2.2.1, pw_cell_below (below_alloc (Below.refl _ _) _) hH1.2.2.2.2.1, pw_cell_below (below_alloc (Below.refl _ _) _) hH1.2.2.2.2.2⟩ (fun hHeld2 => ?_)
   clear hK K
   refine norm_ (a' := ?_) ?_ ?_
   rotate_left
   ·show Act.put _ (some 44) _ = _
    simp only [Act.put, List.setIfInBounds_toArray, List.set_cons_zero, List.set_cons_succ, i64_w, i32_w]
    rfl
   refine last_ (i := 20) (N := some 45) #[true, true, true, true, true, true, true, true, true, true, true, true, true, true, true, true, true, true, true, true, true, false, false] rfl rfl (one_of HT_.out (by kernel_rfl)) (by decide) (fun K hK => ?_)
   refine Kd.N_append_step k40 (w0 := w) w.heap.size (by rfl) (.tmp 26) (.tmp 44) 22 40 (.agg #[(.int .i64 0), (.slice none 0 0), (.int .i64 0), (.slice none 0 0), (.slice none 0 0)]) 88 rfl Tryd.underlying22 info40 rfl (by decide) (by omega) v (l.take i.toNat) r [.int .i64 r.f0, .slice B1 r.f1.length d1, .int .i64 r.f2, .slice B3 r.f3.length d3, .slice B4 r.f4.length d4] (CopyOk w) (fun k => W0.heap.size ≤ k) rfl rfl (row_FK HT1.out HT3.out HT4.out) ?hokp ?hfresh ?hHO ?hHB ?hbase ?hlen ?_
   (case hokp => exact fun k hk => HOKP.out k (Nat.le_trans HB0.out.size hk))
   (case hfresh => exact fun k hk => (HOKP.out k (Nat.le_trans HB0.out.size (Nat.le_trans HB1.out.size hk))).1)
   (case hHO => exact Kd.N_below HCX.out.row (HB0.out.trans (HB1.out.mono HB0.out.size)))
   (case hHB => exact HCX.out.below.trans ((HB0.out.trans (HB1.out.mono HB0.out.size)).mono HCX.out.below.size))
   (case hbase => exact Nat.le_trans HCX.out.below.size (Nat.le_trans HB0.out.size HB1.out.size))
   (case hlen => have := HL.out; have h_ : (l.take i.toNat).length ≤ l.length := (by rw [List.length_take]; omega); omega)
   intro v2 w2 hN2 hB2 hG2 _
   obtain ⟨Ao, co, e2⟩ := Kd.N_slice hN2
   obtain ⟨nn, hnn⟩ : ∃ nn, (l.take i.toNat ++ [r]).length = nn := ⟨_, rfl⟩
   rw [hnn] at e2
   subst e2
   clear hnn
   have HN2 := Aside0.mk hN2
   have HB2 := Aside0.mk hB2
   have HG2 := Aside0.mk hG2
   clear hN2 hB2 hG2
   refine hK.out _ _ ?_
   clear hK K
   refine norm_ (a' := ?_) ?_ ?_
   rotate_left
   ·show Act.put _ (some 45) _ = _
    simp only [Act.put, List.setIfInBounds_toArray, List.set_cons_zero, List.set_cons_succ, i64_w, i32_w]
    rfl
   have hb2w : w2.heap[b2]? = some (.cells #[.int .i64 a0, .int .i64 a1, .int .i64 a2, v] 24 (0, 0)) := by rw [← HB2E.out]; exact copy_keep (HCX.out.next_world (HB0.out.trans (HB1.out.mono HB0.out.size))) HG2.out (HCX.out.next_world (HB0.out.trans (HB1.out.mono HB0.out.size))).b2
   have y3 := (run_cells4 hb2w).2.2.2
   have f3 := run_frozen hb2w 3
   have HB2W := Aside0.mk hb2w
   clear hb2w
   refine pure_ (i := 21) (N := some 46) (v := ?_) (a' := ?_) #[true, true, true, true, true, true, true, true, true, true, true, true, true, true, true, true, true, true, true, true, true, true, false] rfl rfl (any_of HT_.out (by kernel_rfl)) (fun _ _ _ h => h) (Or.inl ⟨by rfl, ?_⟩) ?_ ?_
   rotate_left
   ·intro w'
    go_simp
    with_reducible rfl
   rotate_left
   ·simp only [Act.put, List.setIfInBounds_toArray, List.set_cons_zero, List.set_cons_succ, i64_w, i32_w]
    rfl
   refine last_ (i := 22) (N := none) #[true, true, true, true, true, true, true, true, true, true, true, true, true, true, true, true, true, true, true, true, true, true, true] rfl rfl (one_of HT_.out (by kernel_rfl)) (by decide) (fun K hK => ?_)
   refine skip_ (w1 := ?_) (by rfl) rfl ?_ ?_
   rotate_left
   ·go_simp
    rfl
   refine hK.out _ _ ?_
   clear hK K
   refine done_ (done_of HT_.out (by kernel_rfl)) ?_
   try go_wp2
   obtain rfl := HB2E.out
   go_roundg (l.length - (i + 1)).toNat
   case measure => have := HG.out; have := CL.out; omega
   case rel =>
    have i1 := CL.out
    have hl' := HL.out
    have i0' := HI.out
    have hg1 := HG.out
    have hfin := copy_next (HCX.out.next_world (HB0.out.trans (HB1.out.mono HB0.out.size))) HG2.out HB2.out HN2.out rfl
    rw [← HTK.out] at hfin
    refine ⟨i + 1, _, ?_, ⟨by omega⟩, ⟨by omega⟩, ⟨hfin⟩⟩
    first | rfl | (rw [show wrap64 (i + 1) = i + 1 by unfold wrap64; omega])
  ·have clb : decide (i < (l.length : Int)) = false := decide_eq_false cl
   have HEN : Aside0 (l.take i.toNat = l) := ⟨List.take_of_length_le (by omega)⟩
   obtain ⟨r0, r1, r2, r3⟩ := run_cells4 HCA.out.b1
   have s0 := run_frozen HCA.out.b1 0
   have s1 := run_frozen HCA.out.b1 1
   have s2 := run_frozen HCA.out.b1 2
   have s3 := run_frozen HCA.out.b1 3
   have hrow := HCA.out.row
   rw [HEN.out] at hrow
   obtain ⟨B, cb, rfl⟩ := Kd.N_slice hrow
   have HROW' := Aside0.mk hrow
   have zr1 : w.heap.size + 1 < wr.heap.size := by omega
   clear hrow
   go_wp2
   refine bodyPost_ret (v := .agg #[.int .i64 a0, .int .i64 a1, .int .i64 a2, .slice B l.length cb]) (by simp [results, Tryd.results11, go_sem, r0, r1, r2, r3, s0, s1, s2, s3, zr1]) rfl ?_
   have hN : Kd.N k40 40 ((((wr.setCell ⟨w.heap.size + 1, 0, none⟩ (.int .i64 a0)).setCell ⟨w.heap.size + 1, 1, none⟩ (.int .i64 a1)).setCell ⟨w.heap.size + 1, 2, none⟩ (.int .i64 a2)).setCell ⟨w.heap.size + 1, 3, none⟩ (.slice B l.length cb)) w.heap.size (CopyOk w) (.slice B l.length cb) l :=
    Kd.N_far (Kd.N_far (Kd.N_far (Kd.N_far HROW'.out (fun k hk => hk.1) _) (fun k hk => hk.1) _) (fun k hk => hk.1) _) (fun k hk => hk.1) _
   obtain ⟨_, e2, e3⟩ := Kd.N_reads' hN
   refine ⟨B, cb, rfl, e2, hN, ?_⟩
   exact ((((HCA.out.below.setCell (p := ⟨w.heap.size + 1, 0, none⟩) (by simp) _).setCell (p := ⟨w.heap.size + 1, 1, none⟩) (by simp) _).setCell (p := ⟨w.heap.size + 1, 2, none⟩) (by simp) _).setCell (p := ⟨w.heap.size + 1, 3, none⟩) (by simp) _)
theorem copy_walk (a0 a1 a2 : Int) (A : Option Addr) (c : Nat) (l : List S40) (w : World) (hr : Kd.C k40 w A l.length l) (hl : l.length ≤ 1000000) (hrow : ∀ r ∈ l, r.f1.length ≤ 1000000 ∧ r.f3.length ≤ 1000000 ∧ r.f4.length ≤ 1000000) :
  Calls Tryd.prog 11 #[.agg #[.int .i64 a0, .int .i64 a1, .int .i64 a2, .slice A l.length c]] w (CopyOut w a0 a1 a2 l) :=
 (copy_walkN a0 a1 a2 A c l w hr hl hrow).mono (by
  rintro e w' ⟨B, cb, rfl, h1, h2, h3⟩
  exact ⟨B, cb, rfl, h1, (Kd.N_reads' h2).2.2, h3⟩)
end Go.Proofs.YtfoodfhhdbaieaaDoor.Giv
